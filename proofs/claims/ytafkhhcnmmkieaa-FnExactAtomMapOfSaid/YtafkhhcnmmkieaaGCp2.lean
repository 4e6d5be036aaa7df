import Derived.Test.YtafkhhcnmmkieaaGCp1
set_option maxRecDepth 100000
set_option linter.unusedVariables false
namespace Go.Proofs.Ytafkhhcnmmkieaa
open Go Go.Gx Go.Proofs

/-! zz38 -/
def zz38_b6 (rec : Y5 → Y5 → Int → Int → Int → Int → Int → Option (Y5 × Unit)) (k : Y5 → Y5 → Int → Int → Option (Y5 × Unit)) (o0 : Y5) (d3 : Y5) (x4 : Int) (t10 : Int) (t11 : Int) (t15 : Int) (t16 : Int) : Option (Y5 × Unit) :=
  cond (decide (t16 < t15))
  ((atI d3 x4).bind fun _ =>
  (d3[x4.toNat]?).bind fun xq2 =>
  (atI o0 t16).bind fun xq3 =>
  (atI xq3 x4).bind fun xq4 =>
  (d3[x4.toNat]?).bind fun xq5 =>
  (atI xq5 t16).bind fun _ =>
  (d3[x4.toNat]?).bind fun xq6 =>
  (xq6[t16.toNat]?).bind fun xq7 =>
  rec o0 (d3.set x4.toNat (xq6.set t16.toNat xq4)) x4 t10 t11 t15 (IntKind.i64.wrap (t16 + (1 : Int))))
  (k o0 d3 t10 t11)
def zz38_a6 (rec : Y5 → Y5 → Int → Int → Option (Y5 × Unit)) (o0 : Y5) (d3 : Y5) (t10 : Int) (t11 : Int) : Option (Y5 × Unit) :=
  rec o0 d3 t10 (IntKind.i64.wrap (t11 + (1 : Int)))
def zz38_b3 (L6 : Y5 → Y5 → Int → Int → Int → Int → Int → Option (Y5 × Unit)) (k : Y5 → Option (Y5 × Unit)) (o0 : Y5) (d3 : Y5) (t10 : Int) (t11 : Int) : Option (Y5 × Unit) :=
  cond (decide (t11 < t10))
  (L6 o0 d3 t11 t10 t11 (o0.length : Int) (0 : Int))
  (k d3)
def zz38_a3 (d3 : Y5) : Option (Y5 × Unit) :=
  some (d3, (()))
def zz38_s (L3 : Y5 → Y5 → Int → Int → Option (Y5 × Unit)) (o_0 : Y5) : Option (Y5 × Unit) :=
  (zz29 big (o_0.length : Int)).bind fun rq1 =>
  L3 o_0 rq1.1 (o_0.length : Int) (0 : Int)
def zz38_l6 (N : Nat) (k : Y5 → Y5 → Int → Int → Option (Y5 × Unit)) : Nat → Y5 → Y5 → Int → Int → Int → Int → Int → Option (Y5 × Unit)
  | 0, _, _, _, _, _, _, _ => none
  | m + 1, o0, d3, x4, t10, t11, t15, t16 => zz38_b6 (zz38_l6 N k m) k o0 d3 x4 t10 t11 t15 t16
def zz38_F6 (N : Nat) (rec : Y5 → Y5 → Int → Int → Option (Y5 × Unit)) (k : Y5 → Option (Y5 × Unit)) (o0 : Y5) (d3 : Y5) (x4 : Int) (t10 : Int) (t11 : Int) (t15 : Int) (t16 : Int) : Option (Y5 × Unit) := zz38_l6 N (zz38_a6 rec) N o0 d3 x4 t10 t11 t15 t16
def zz38_l3 (N : Nat) (k : Y5 → Option (Y5 × Unit)) : Nat → Y5 → Y5 → Int → Int → Option (Y5 × Unit)
  | 0, _, _, _, _ => none
  | m + 1, o0, d3, t10, t11 => zz38_b3 (zz38_F6 N (zz38_l3 N k m) k) k o0 d3 t10 t11
def zz38_F3 (N : Nat) (o0 : Y5) (d3 : Y5) (t10 : Int) (t11 : Int) : Option (Y5 × Unit) := zz38_l3 N (zz38_a3) N o0 d3 t10 t11
def zz38 (N : Nat) (o_0 : Y5) : Option (Y5 × Unit) := zz38_s (zz38_F3 N) o_0
def S_zz38 : Sig := { a := (.pair (.sl (.sl .bool)) .unit), md := [0], mf := [], m := .unit, r := (.sl (.sl .bool)), rf := (.o (.o .i)), f := fun x => zz38 big x.1 }
def A_zz38 : Cfg := mkCfg tab [(140, S_zz29)] [(6, [.as (.sl (.sl .bool)) .i, .drop, .drop, .as (.sl (.sl .bool)) (.o (.o .i)), .drop, .drop, .drop, .drop, .drop, .drop, .as I .i, .as I .i]), (12, [.as (.sl (.sl .bool)) .i, .drop, .drop, .as (.sl (.sl .bool)) (.o (.o .i)), .as I .i, .drop, .drop, .drop, .drop, .drop, .as I .i, .as I .i, .drop, .drop, .drop, .as I .i, .as I .i]), (23, [.drop, .drop, .drop, .as (.sl (.sl .bool)) (.o (.o .i))]), (21, [.as (.sl (.sl .bool)) .i, .drop, .drop, .as (.sl (.sl .bool)) (.o (.o .i)), .drop, .drop, .drop, .drop, .drop, .drop, .as I .i, .as I .i])]
noncomputable def zz38_R3 (N n : Nat) (K : Ex → St → Option (Y5 × Unit)) (o0 : Y5) (d3 : Y5) (t10 : Int) (t11 : Int) : Option (Y5 × Unit) := iter ((A_zz38).shape 6) (run (A_zz38) N (codeAt Try.f121 [1, 1, 0, 1, 0, 0])) n ([.val (.sl (.sl .bool)) .i o0, .u, .u, .val (.sl (.sl .bool)) (.o (.o .i)) d3, .u, .u, .u, .u, .u, .u, .val I .i t10, .val I .i t11] ++ List.replicate 23 .u) K
noncomputable def zz38_R6 (N n : Nat) (K : Ex → St → Option (Y5 × Unit)) (o0 : Y5) (d3 : Y5) (x4 : Int) (t10 : Int) (t11 : Int) (t15 : Int) (t16 : Int) : Option (Y5 × Unit) := iter ((A_zz38).shape 12) (run (A_zz38) N (codeAt Try.f121 [1, 1, 0, 1, 0, 0, 1, 1, 0, 0, 1, 1, 0, 0])) n ([.val (.sl (.sl .bool)) .i o0, .u, .u, .val (.sl (.sl .bool)) (.o (.o .i)) d3, .val I .i x4, .u, .u, .u, .u, .u, .val I .i t10, .val I .i t11, .u, .u, .u, .val I .i t15, .val I .i t16] ++ List.replicate 18 .u) K
noncomputable abbrev zz38_z : Ex → St → Option (Y5 × Unit) := finish (A_zz38) S_zz38 Try.f121.results.toList
noncomputable abbrev zz38_X3 (kX : St → Option (Y5 × Unit)) : Y5 → Option (Y5 × Unit) := fun (d3 : Y5) => kX ([.u, .u, .u, .val (.sl (.sl .bool)) (.o (.o .i)) d3] ++ List.replicate 31 .u)
noncomputable abbrev zz38_E3 (kX : St → Option (Y5 × Unit)) (kO : Nat → St → Option (Y5 × Unit)) : Ex → St → Option (Y5 × Unit) := exK zz38_z 0 ((A_zz38).shape 23) kX kO
noncomputable abbrev zz38_X6 (kX : St → Option (Y5 × Unit)) : Y5 → Y5 → Int → Int → Option (Y5 × Unit) := fun (o0 : Y5) (d3 : Y5) (t10 : Int) (t11 : Int) => kX ([.val (.sl (.sl .bool)) .i o0, .u, .u, .val (.sl (.sl .bool)) (.o (.o .i)) d3, .u, .u, .u, .u, .u, .u, .val I .i t10, .val I .i t11] ++ List.replicate 23 .u)
noncomputable abbrev zz38_E6 (kX : St → Option (Y5 × Unit)) (kO : Nat → St → Option (Y5 × Unit)) : Ex → St → Option (Y5 × Unit) := exK zz38_z 2 ((A_zz38).shape 21) kX kO
theorem zz38_step6 (N : Nat) (m : Nat) (kX : St → Option (Y5 × Unit)) (kO : Nat → St → Option (Y5 × Unit)) (o0 : Y5) (d3 : Y5) (x4 : Int) (t10 : Int) (t11 : Int) (t15 : Int) (t16 : Int) : zz38_R6 N (m + 1) (zz38_E6 kX kO) o0 d3 x4 t10 t11 t15 t16 = zz38_b6 (zz38_R6 N m (zz38_E6 kX kO)) (zz38_X6 kX) o0 d3 x4 t10 t11 t15 t16 := by kernel_rfl
theorem zz38_iter6 (N : Nat) (kX : St → Option (Y5 × Unit)) (kO : Nat → St → Option (Y5 × Unit)) : ∀ (n : Nat) (o0 : Y5) (d3 : Y5) (x4 : Int) (t10 : Int) (t11 : Int) (t15 : Int) (t16 : Int), zz38_R6 N n (zz38_E6 kX kO) o0 d3 x4 t10 t11 t15 t16 = zz38_l6 N (zz38_X6 kX) n o0 d3 x4 t10 t11 t15 t16
  | 0, _, _, _, _, _, _, _ => rfl
  | m + 1, o0, d3, x4, t10, t11, t15, t16 => by
    have hrec : zz38_R6 N m (zz38_E6 kX kO) = (zz38_l6 N (zz38_X6 kX) m) := (funext fun o0 => (funext fun d3 => (funext fun x4 => (funext fun t10 => (funext fun t11 => (funext fun t15 => (funext fun t16 => zz38_iter6 N kX kO m o0 d3 x4 t10 t11 t15 t16)))))))
    refine (zz38_step6 N m kX kO o0 d3 x4 t10 t11 t15 t16).trans ?_
    rw [hrec]
    rfl
noncomputable abbrev zz38_K6 (N : Nat) (m : Nat) (kX : St → Option (Y5 × Unit)) (kO : Nat → St → Option (Y5 × Unit)) : Ex → St → Option (Y5 × Unit) := (blockK 2 (blockK 1 (seqK ((A_zz38).shape 21) (run (A_zz38) N (codeAt Try.f121 [1, 1, 0, 1, 0, 0, 1, 1, 1])) (iterK ((A_zz38).shape 6) (run (A_zz38) N (codeAt Try.f121 [1, 1, 0, 1, 0, 0])) m (zz38_E3 kX kO)))))
noncomputable abbrev zz38_k6 (N : Nat) (m : Nat) (kX : St → Option (Y5 × Unit)) (kO : Nat → St → Option (Y5 × Unit)) : St → Option (Y5 × Unit) := fun st' => run (A_zz38) N (codeAt Try.f121 [1, 1, 0, 1, 0, 0, 1, 1, 1]) st' (iterK ((A_zz38).shape 6) (run (A_zz38) N (codeAt Try.f121 [1, 1, 0, 1, 0, 0])) m (zz38_E3 kX kO))
theorem zz38_after6 (N : Nat) (m : Nat) (kX : St → Option (Y5 × Unit)) (kO : Nat → St → Option (Y5 × Unit)) (o0 : Y5) (d3 : Y5) (t10 : Int) (t11 : Int) : zz38_X6 (zz38_k6 N m kX kO) o0 d3 t10 t11 = zz38_a6 (zz38_R3 N m (zz38_E3 kX kO)) o0 d3 t10 t11 := by kernel_rfl
theorem zz38_in6 (N : Nat) (m : Nat) (kX : St → Option (Y5 × Unit)) (kO : Nat → St → Option (Y5 × Unit)) (recF : Y5 → Y5 → Int → Int → Option (Y5 × Unit)) (hrec : zz38_R3 N m (zz38_E3 kX kO) = recF) (o0 : Y5) (d3 : Y5) (x4 : Int) (t10 : Int) (t11 : Int) (t15 : Int) (t16 : Int) : zz38_R6 N N (zz38_K6 N m kX kO) o0 d3 x4 t10 t11 t15 t16 = zz38_F6 N recF (zz38_X3 kX) o0 d3 x4 t10 t11 t15 t16 :=
  have h : zz38_X6 (zz38_k6 N m kX kO) = (zz38_a6 recF) := (funext fun o0 => (funext fun d3 => (funext fun t10 => (funext fun t11 => (zz38_after6 N m kX kO o0 d3 t10 t11).trans (by rw [hrec])))))
  ((iter_ex (fun st => by kernel_rfl) (fun st => by kernel_rfl)).trans (zz38_iter6 N (zz38_k6 N m kX kO) (fun j st => (zz38_K6 N m kX kO) (.exit j) st) N o0 d3 x4 t10 t11 t15 t16)).trans (congrArg (fun k => zz38_l6 N k N o0 d3 x4 t10 t11 t15 t16) h)
theorem zz38_step3 (N : Nat) (m : Nat) (kX : St → Option (Y5 × Unit)) (kO : Nat → St → Option (Y5 × Unit)) (o0 : Y5) (d3 : Y5) (t10 : Int) (t11 : Int) : zz38_R3 N (m + 1) (zz38_E3 kX kO) o0 d3 t10 t11 = zz38_b3 (zz38_R6 N N (zz38_K6 N m kX kO)) (zz38_X3 kX) o0 d3 t10 t11 := by kernel_rfl
theorem zz38_iter3 (N : Nat) (kX : St → Option (Y5 × Unit)) (kO : Nat → St → Option (Y5 × Unit)) : ∀ (n : Nat) (o0 : Y5) (d3 : Y5) (t10 : Int) (t11 : Int), zz38_R3 N n (zz38_E3 kX kO) o0 d3 t10 t11 = zz38_l3 N (zz38_X3 kX) n o0 d3 t10 t11
  | 0, _, _, _, _ => rfl
  | m + 1, o0, d3, t10, t11 => by
    have hrec : zz38_R3 N m (zz38_E3 kX kO) = (zz38_l3 N (zz38_X3 kX) m) := (funext fun o0 => (funext fun d3 => (funext fun t10 => (funext fun t11 => zz38_iter3 N kX kO m o0 d3 t10 t11))))
    refine (zz38_step3 N m kX kO o0 d3 t10 t11).trans ?_
    rw [(funext fun o0 => (funext fun d3 => (funext fun x4 => (funext fun t10 => (funext fun t11 => (funext fun t15 => (funext fun t16 => zz38_in6 N m kX kO (zz38_l3 N (zz38_X3 kX) m) hrec o0 d3 x4 t10 t11 t15 t16)))))))]
    rfl
noncomputable abbrev zz38_K3 (N : Nat) : Ex → St → Option (Y5 × Unit) := (blockK 0 (seqK ((A_zz38).shape 23) (run (A_zz38) N (codeAt Try.f121 [1, 1, 1])) zz38_z))
noncomputable abbrev zz38_k3 (N : Nat) : St → Option (Y5 × Unit) := fun st' => run (A_zz38) N (codeAt Try.f121 [1, 1, 1]) st' zz38_z
theorem zz38_after3 (N : Nat) (d3 : Y5) : zz38_X3 (zz38_k3 N) d3 = zz38_a3 d3 := by kernel_rfl
theorem zz38_in3 (N : Nat) (o0 : Y5) (d3 : Y5) (t10 : Int) (t11 : Int) : zz38_R3 N N (zz38_K3 N) o0 d3 t10 t11 = zz38_F3 N o0 d3 t10 t11 :=
  have h : zz38_X3 (zz38_k3 N) = (zz38_a3) := (funext fun d3 => zz38_after3 N d3)
  ((iter_ex (fun st => by kernel_rfl) (fun st => by kernel_rfl)).trans (zz38_iter3 N (zz38_k3 N) (fun j st => (zz38_K3 N) (.exit j) st) N o0 d3 t10 t11)).trans (congrArg (fun k => zz38_l3 N k N o0 d3 t10 t11) h)
theorem run0_zz38 (N : Nat) (x : (S_zz38).a.den) : runF (A_zz38) N Try.f121 S_zz38 x = (zz38_s (zz38_R3 N N (zz38_K3 N)) x.1) := by kernel_rfl
theorem run_zz38 (N : Nat) (x : (S_zz38).a.den) : runF (A_zz38) N Try.f121 S_zz38 x = zz38 N x.1 := by
  refine (run0_zz38 N x).trans ?_
  rw [(funext fun o0 => (funext fun d3 => (funext fun t10 => (funext fun t11 => zz38_in3 N o0 d3 t10 t11))))]
  rfl
theorem fn_zz38 : FnOk Try.prog 121 := ⟨_, Try.func121, by kernel_rfl, by kernel_rfl⟩
theorem good_zz38 : Gx.Good Try.prog 121 S_zz38 := good_of_run Try.func121 (of_decide_eq_true (by kernel_rfl)) fun x r h => ⟨A_zz38, big, mkCfg_ok tabOk, mkCfg_sigs (show SigsOk Try.prog [(140, S_zz29)] from ⟨⟨fn_zz29, good_zz29⟩, trivial⟩), (run_zz38 big x).trans h⟩

/-! zz39 -/
def zz39_s (p_0 : Y2) : Option ((Y1 × (Bool × Unit)) × Unit) :=
  (zz33 big p_0).bind fun rq1 =>
  cond (!((((), rq1.1.2).2).1))
  (some ((none, false, ()), (())))
  (cond (decide ((rq1.1.1.length : Int) = (0 : Int)))
  (some ((none, false, ()), (())))
  ((zz37 big rq1.1.1).bind fun rq2 =>
  (zz38 big rq1.1.1).bind fun rq3 =>
  (zz37 big rq3.1).bind fun rq4 =>
  cond ((((), rq2.1.2).2).1)
  (some ((some (rq1.1.1, (rq2.1.1, (rq4.1.1, ()))), (((), rq4.1.2).2).1, ()), (())))
  (some ((some (rq1.1.1, (rq2.1.1, (rq4.1.1, ()))), false, ()), (())))))
def zz39 (p_0 : Y2) : Option ((Y1 × (Bool × Unit)) × Unit) := zz39_s p_0
def S_zz39 : Sig := { a := (.pair (.pair (.sl (.sl I)) .unit) .unit), md := [0], mf := [], m := .unit, r := (.tup (.pair (.opt (.pair (.sl (.sl .bool)) (.pair (.sl (.sl I)) (.pair (.sl (.sl I)) .unit)))) (.pair .bool .unit))), rf := .i, f := fun x => zz39 x.1 }
def A_zz39 : Cfg := mkCfg tab [(119, S_zz33), (120, S_zz37), (121, S_zz38)] []
theorem run_zz39 (N : Nat) (x : (S_zz39).a.den) : runF (A_zz39) N Try.f68 S_zz39 x = zz39 x.1 := by kernel_rfl
theorem fn_zz39 : FnOk Try.prog 68 := ⟨_, Try.func68, by kernel_rfl, by kernel_rfl⟩
theorem good_zz39 : Gx.Good Try.prog 68 S_zz39 := good_of_run Try.func68 (of_decide_eq_true (by kernel_rfl)) fun x r h => ⟨A_zz39, big, mkCfg_ok tabOk, mkCfg_sigs (show SigsOk Try.prog [(119, S_zz33), (120, S_zz37), (121, S_zz38)] from ⟨⟨fn_zz33, good_zz33⟩, ⟨fn_zz37, good_zz37⟩, ⟨fn_zz38, good_zz38⟩, trivial⟩), (run_zz39 big x).trans h⟩

/-! zz40 -/
def zz40_b8 (rec : Y1 → Int → Int → Int → Int → Int → Int → Int → Int → Option ((Option Y4) × Unit)) (k : Y1 → Int → Int → Int → Int → Int → Option ((Option Y4) × Unit)) (l0 : Y1) (x3 : Int) (y4 : Int) (t10 : Int) (t11 : Int) (t18 : Int) (t19 : Int) (t26 : Int) (t27 : Int) : Option ((Option Y4) × Unit) :=
  cond (decide (t27 < t26))
  ((l0).bind fun xq4 =>
  (atI xq4.2.1 x3).bind fun xq5 =>
  (l0).bind fun xq6 =>
  (atI xq6.2.2.1 y4).bind fun xq7 =>
  (atI xq7 t27).bind fun xq8 =>
  (atI xq5 xq8).bind fun xq9 =>
  (l0).bind fun xq10 =>
  (l0).bind fun xq11 =>
  (atI xq11.2.1 x3).bind fun xq12 =>
  (atI xq12 y4).bind fun xq13 =>
  (atI xq10.2.2.1 xq13).bind fun xq14 =>
  (l0).bind fun xq15 =>
  (atI xq15.2.1 x3).bind fun xq16 =>
  (atI xq16 t27).bind fun xq17 =>
  (atI xq14 xq17).bind fun xq18 =>
  cond (decide (xq9 ≠ xq18))
  (some ((some [x3, y4, t27]), (())))
  (rec l0 x3 y4 t10 t11 t18 t19 t26 (IntKind.i64.wrap (t27 + (1 : Int)))))
  (k l0 x3 t10 t11 t18 t19)
def zz40_a8 (rec : Y1 → Int → Int → Int → Int → Int → Option ((Option Y4) × Unit)) (l0 : Y1) (x3 : Int) (t10 : Int) (t11 : Int) (t18 : Int) (t19 : Int) : Option ((Option Y4) × Unit) :=
  rec l0 x3 t10 t11 t18 (IntKind.i64.wrap (t19 + (1 : Int)))
def zz40_b5 (L8 : Y1 → Int → Int → Int → Int → Int → Int → Int → Int → Option ((Option Y4) × Unit)) (k : Y1 → Int → Int → Option ((Option Y4) × Unit)) (l0 : Y1) (x3 : Int) (t10 : Int) (t11 : Int) (t18 : Int) (t19 : Int) : Option ((Option Y4) × Unit) :=
  cond (decide (t19 < t18))
  ((l0).bind fun xq3 =>
  L8 l0 x3 t19 t10 t11 t18 t19 (xq3.1.length : Int) (0 : Int))
  (k l0 t10 t11)
def zz40_a5 (rec : Y1 → Int → Int → Option ((Option Y4) × Unit)) (l0 : Y1) (t10 : Int) (t11 : Int) : Option ((Option Y4) × Unit) :=
  rec l0 t10 (IntKind.i64.wrap (t11 + (1 : Int)))
def zz40_b2 (L5 : Y1 → Int → Int → Int → Int → Int → Option ((Option Y4) × Unit)) (k : Option ((Option Y4) × Unit)) (l0 : Y1) (t10 : Int) (t11 : Int) : Option ((Option Y4) × Unit) :=
  cond (decide (t11 < t10))
  ((l0).bind fun xq2 =>
  L5 l0 t11 t10 t11 (xq2.1.length : Int) (0 : Int))
  (k)
def zz40_a2 : Option ((Option Y4) × Unit) :=
  some (none, (()))
def zz40_s (L2 : Y1 → Int → Int → Option ((Option Y4) × Unit)) (l_0 : Y1) : Option ((Option Y4) × Unit) :=
  (l_0).bind fun xq1 =>
  L2 l_0 (xq1.1.length : Int) (0 : Int)
def zz40_l8 (N : Nat) (k : Y1 → Int → Int → Int → Int → Int → Option ((Option Y4) × Unit)) : Nat → Y1 → Int → Int → Int → Int → Int → Int → Int → Int → Option ((Option Y4) × Unit)
  | 0, _, _, _, _, _, _, _, _, _ => none
  | m + 1, l0, x3, y4, t10, t11, t18, t19, t26, t27 => zz40_b8 (zz40_l8 N k m) k l0 x3 y4 t10 t11 t18 t19 t26 t27
def zz40_F8 (N : Nat) (rec : Y1 → Int → Int → Int → Int → Int → Option ((Option Y4) × Unit)) (k : Y1 → Int → Int → Option ((Option Y4) × Unit)) (l0 : Y1) (x3 : Int) (y4 : Int) (t10 : Int) (t11 : Int) (t18 : Int) (t19 : Int) (t26 : Int) (t27 : Int) : Option ((Option Y4) × Unit) := zz40_l8 N (zz40_a8 rec) N l0 x3 y4 t10 t11 t18 t19 t26 t27
def zz40_l5 (N : Nat) (k : Y1 → Int → Int → Option ((Option Y4) × Unit)) : Nat → Y1 → Int → Int → Int → Int → Int → Option ((Option Y4) × Unit)
  | 0, _, _, _, _, _, _ => none
  | m + 1, l0, x3, t10, t11, t18, t19 => zz40_b5 (zz40_F8 N (zz40_l5 N k m) k) k l0 x3 t10 t11 t18 t19
def zz40_F5 (N : Nat) (rec : Y1 → Int → Int → Option ((Option Y4) × Unit)) (k : Option ((Option Y4) × Unit)) (l0 : Y1) (x3 : Int) (t10 : Int) (t11 : Int) (t18 : Int) (t19 : Int) : Option ((Option Y4) × Unit) := zz40_l5 N (zz40_a5 rec) N l0 x3 t10 t11 t18 t19
def zz40_l2 (N : Nat) (k : Option ((Option Y4) × Unit)) : Nat → Y1 → Int → Int → Option ((Option Y4) × Unit)
  | 0, _, _, _ => none
  | m + 1, l0, t10, t11 => zz40_b2 (zz40_F5 N (zz40_l2 N k m) k) k l0 t10 t11
def zz40_F2 (N : Nat) (l0 : Y1) (t10 : Int) (t11 : Int) : Option ((Option Y4) × Unit) := zz40_l2 N (zz40_a2) N l0 t10 t11
def zz40 (N : Nat) (l_0 : Y1) : Option ((Option Y4) × Unit) := zz40_s (zz40_F2 N) l_0
def S_zz40 : Sig := { a := (.pair (.opt (.pair (.sl (.sl .bool)) (.pair (.sl (.sl I)) (.pair (.sl (.sl I)) .unit)))) .unit), md := [0], mf := [], m := .unit, r := (.ns I), rf := .i, f := fun x => zz40 big x.1 }
def A_zz40 : Cfg := mkCfg tab [] [(4, [.as (.opt (.pair (.sl (.sl .bool)) (.pair (.sl (.sl I)) (.pair (.sl (.sl I)) .unit)))) .i, .drop, .drop, .drop, .drop, .drop, .drop, .drop, .drop, .drop, .as I .i, .as I .i]), (10, [.as (.opt (.pair (.sl (.sl .bool)) (.pair (.sl (.sl I)) (.pair (.sl (.sl I)) .unit)))) .i, .drop, .drop, .as I .i, .drop, .drop, .drop, .drop, .drop, .drop, .as I .i, .as I .i, .drop, .drop, .drop, .drop, .drop, .drop, .as I .i, .as I .i]), (31, []), (16, [.as (.opt (.pair (.sl (.sl .bool)) (.pair (.sl (.sl I)) (.pair (.sl (.sl I)) .unit)))) .i, .drop, .drop, .as I .i, .as I .i, .drop, .drop, .drop, .drop, .drop, .as I .i, .as I .i, .drop, .drop, .drop, .drop, .drop, .drop, .as I .i, .as I .i, .drop, .drop, .drop, .drop, .drop, .drop, .as I .i, .as I .i]), (29, [.as (.opt (.pair (.sl (.sl .bool)) (.pair (.sl (.sl I)) (.pair (.sl (.sl I)) .unit)))) .i, .drop, .drop, .drop, .drop, .drop, .drop, .drop, .drop, .drop, .as I .i, .as I .i]), (27, [.as (.opt (.pair (.sl (.sl .bool)) (.pair (.sl (.sl I)) (.pair (.sl (.sl I)) .unit)))) .i, .drop, .drop, .as I .i, .drop, .drop, .drop, .drop, .drop, .drop, .as I .i, .as I .i, .drop, .drop, .drop, .drop, .drop, .drop, .as I .i, .as I .i])]
noncomputable def zz40_R2 (N n : Nat) (K : Ex → St → Option ((Option Y4) × Unit)) (l0 : Y1) (t10 : Int) (t11 : Int) : Option ((Option Y4) × Unit) := iter ((A_zz40).shape 4) (run (A_zz40) N (codeAt Try.f148 [1, 0, 1, 0, 0])) n ([.val (.opt (.pair (.sl (.sl .bool)) (.pair (.sl (.sl I)) (.pair (.sl (.sl I)) .unit)))) .i l0, .u, .u, .u, .u, .u, .u, .u, .u, .u, .val I .i t10, .val I .i t11] ++ List.replicate 73 .u) K
noncomputable def zz40_R5 (N n : Nat) (K : Ex → St → Option ((Option Y4) × Unit)) (l0 : Y1) (x3 : Int) (t10 : Int) (t11 : Int) (t18 : Int) (t19 : Int) : Option ((Option Y4) × Unit) := iter ((A_zz40).shape 10) (run (A_zz40) N (codeAt Try.f148 [1, 0, 1, 0, 0, 1, 1, 0, 0, 1, 1, 0, 0])) n ([.val (.opt (.pair (.sl (.sl .bool)) (.pair (.sl (.sl I)) (.pair (.sl (.sl I)) .unit)))) .i l0, .u, .u, .val I .i x3, .u, .u, .u, .u, .u, .u, .val I .i t10, .val I .i t11, .u, .u, .u, .u, .u, .u, .val I .i t18, .val I .i t19] ++ List.replicate 65 .u) K
noncomputable def zz40_R8 (N n : Nat) (K : Ex → St → Option ((Option Y4) × Unit)) (l0 : Y1) (x3 : Int) (y4 : Int) (t10 : Int) (t11 : Int) (t18 : Int) (t19 : Int) (t26 : Int) (t27 : Int) : Option ((Option Y4) × Unit) := iter ((A_zz40).shape 16) (run (A_zz40) N (codeAt Try.f148 [1, 0, 1, 0, 0, 1, 1, 0, 0, 1, 1, 0, 0, 1, 1, 0, 0, 1, 1, 0, 0])) n ([.val (.opt (.pair (.sl (.sl .bool)) (.pair (.sl (.sl I)) (.pair (.sl (.sl I)) .unit)))) .i l0, .u, .u, .val I .i x3, .val I .i y4, .u, .u, .u, .u, .u, .val I .i t10, .val I .i t11, .u, .u, .u, .u, .u, .u, .val I .i t18, .val I .i t19, .u, .u, .u, .u, .u, .u, .val I .i t26, .val I .i t27] ++ List.replicate 57 .u) K
noncomputable abbrev zz40_z : Ex → St → Option ((Option Y4) × Unit) := finish (A_zz40) S_zz40 Try.f148.results.toList
noncomputable abbrev zz40_X2 (kX : St → Option ((Option Y4) × Unit)) : Option ((Option Y4) × Unit) := kX ([] ++ List.replicate 85 .u)
noncomputable abbrev zz40_E2 (kX : St → Option ((Option Y4) × Unit)) (kO : Nat → St → Option ((Option Y4) × Unit)) : Ex → St → Option ((Option Y4) × Unit) := exK zz40_z 0 ((A_zz40).shape 31) kX kO
noncomputable abbrev zz40_X5 (kX : St → Option ((Option Y4) × Unit)) : Y1 → Int → Int → Option ((Option Y4) × Unit) := fun (l0 : Y1) (t10 : Int) (t11 : Int) => kX ([.val (.opt (.pair (.sl (.sl .bool)) (.pair (.sl (.sl I)) (.pair (.sl (.sl I)) .unit)))) .i l0, .u, .u, .u, .u, .u, .u, .u, .u, .u, .val I .i t10, .val I .i t11] ++ List.replicate 73 .u)
noncomputable abbrev zz40_E5 (kX : St → Option ((Option Y4) × Unit)) (kO : Nat → St → Option ((Option Y4) × Unit)) : Ex → St → Option ((Option Y4) × Unit) := exK zz40_z 2 ((A_zz40).shape 29) kX kO
noncomputable abbrev zz40_X8 (kX : St → Option ((Option Y4) × Unit)) : Y1 → Int → Int → Int → Int → Int → Option ((Option Y4) × Unit) := fun (l0 : Y1) (x3 : Int) (t10 : Int) (t11 : Int) (t18 : Int) (t19 : Int) => kX ([.val (.opt (.pair (.sl (.sl .bool)) (.pair (.sl (.sl I)) (.pair (.sl (.sl I)) .unit)))) .i l0, .u, .u, .val I .i x3, .u, .u, .u, .u, .u, .u, .val I .i t10, .val I .i t11, .u, .u, .u, .u, .u, .u, .val I .i t18, .val I .i t19] ++ List.replicate 65 .u)
noncomputable abbrev zz40_E8 (kX : St → Option ((Option Y4) × Unit)) (kO : Nat → St → Option ((Option Y4) × Unit)) : Ex → St → Option ((Option Y4) × Unit) := exK zz40_z 4 ((A_zz40).shape 27) kX kO
theorem zz40_step8 (N : Nat) (m : Nat) (kX : St → Option ((Option Y4) × Unit)) (kO : Nat → St → Option ((Option Y4) × Unit)) (l0 : Y1) (x3 : Int) (y4 : Int) (t10 : Int) (t11 : Int) (t18 : Int) (t19 : Int) (t26 : Int) (t27 : Int) : zz40_R8 N (m + 1) (zz40_E8 kX kO) l0 x3 y4 t10 t11 t18 t19 t26 t27 = zz40_b8 (zz40_R8 N m (zz40_E8 kX kO)) (zz40_X8 kX) l0 x3 y4 t10 t11 t18 t19 t26 t27 := by kernel_rfl
theorem zz40_iter8 (N : Nat) (kX : St → Option ((Option Y4) × Unit)) (kO : Nat → St → Option ((Option Y4) × Unit)) : ∀ (n : Nat) (l0 : Y1) (x3 : Int) (y4 : Int) (t10 : Int) (t11 : Int) (t18 : Int) (t19 : Int) (t26 : Int) (t27 : Int), zz40_R8 N n (zz40_E8 kX kO) l0 x3 y4 t10 t11 t18 t19 t26 t27 = zz40_l8 N (zz40_X8 kX) n l0 x3 y4 t10 t11 t18 t19 t26 t27
  | 0, _, _, _, _, _, _, _, _, _ => rfl
  | m + 1, l0, x3, y4, t10, t11, t18, t19, t26, t27 => by
    have hrec : zz40_R8 N m (zz40_E8 kX kO) = (zz40_l8 N (zz40_X8 kX) m) := (funext fun l0 => (funext fun x3 => (funext fun y4 => (funext fun t10 => (funext fun t11 => (funext fun t18 => (funext fun t19 => (funext fun t26 => (funext fun t27 => zz40_iter8 N kX kO m l0 x3 y4 t10 t11 t18 t19 t26 t27)))))))))
    refine (zz40_step8 N m kX kO l0 x3 y4 t10 t11 t18 t19 t26 t27).trans ?_
    rw [hrec]
    rfl
noncomputable abbrev zz40_K8 (N : Nat) (m : Nat) (kX : St → Option ((Option Y4) × Unit)) (kO : Nat → St → Option ((Option Y4) × Unit)) : Ex → St → Option ((Option Y4) × Unit) := (blockK 4 (blockK 3 (seqK ((A_zz40).shape 27) (run (A_zz40) N (codeAt Try.f148 [1, 0, 1, 0, 0, 1, 1, 0, 0, 1, 1, 0, 0, 1, 1, 1])) (iterK ((A_zz40).shape 10) (run (A_zz40) N (codeAt Try.f148 [1, 0, 1, 0, 0, 1, 1, 0, 0, 1, 1, 0, 0])) m (zz40_E5 kX kO)))))
noncomputable abbrev zz40_k8 (N : Nat) (m : Nat) (kX : St → Option ((Option Y4) × Unit)) (kO : Nat → St → Option ((Option Y4) × Unit)) : St → Option ((Option Y4) × Unit) := fun st' => run (A_zz40) N (codeAt Try.f148 [1, 0, 1, 0, 0, 1, 1, 0, 0, 1, 1, 0, 0, 1, 1, 1]) st' (iterK ((A_zz40).shape 10) (run (A_zz40) N (codeAt Try.f148 [1, 0, 1, 0, 0, 1, 1, 0, 0, 1, 1, 0, 0])) m (zz40_E5 kX kO))
theorem zz40_after8 (N : Nat) (m : Nat) (kX : St → Option ((Option Y4) × Unit)) (kO : Nat → St → Option ((Option Y4) × Unit)) (l0 : Y1) (x3 : Int) (t10 : Int) (t11 : Int) (t18 : Int) (t19 : Int) : zz40_X8 (zz40_k8 N m kX kO) l0 x3 t10 t11 t18 t19 = zz40_a8 (zz40_R5 N m (zz40_E5 kX kO)) l0 x3 t10 t11 t18 t19 := by kernel_rfl
theorem zz40_in8 (N : Nat) (m : Nat) (kX : St → Option ((Option Y4) × Unit)) (kO : Nat → St → Option ((Option Y4) × Unit)) (recF : Y1 → Int → Int → Int → Int → Int → Option ((Option Y4) × Unit)) (hrec : zz40_R5 N m (zz40_E5 kX kO) = recF) (l0 : Y1) (x3 : Int) (y4 : Int) (t10 : Int) (t11 : Int) (t18 : Int) (t19 : Int) (t26 : Int) (t27 : Int) : zz40_R8 N N (zz40_K8 N m kX kO) l0 x3 y4 t10 t11 t18 t19 t26 t27 = zz40_F8 N recF (zz40_X5 kX) l0 x3 y4 t10 t11 t18 t19 t26 t27 :=
  have h : zz40_X8 (zz40_k8 N m kX kO) = (zz40_a8 recF) := (funext fun l0 => (funext fun x3 => (funext fun t10 => (funext fun t11 => (funext fun t18 => (funext fun t19 => (zz40_after8 N m kX kO l0 x3 t10 t11 t18 t19).trans (by rw [hrec])))))))
  ((iter_ex (fun st => by kernel_rfl) (fun st => by kernel_rfl)).trans (zz40_iter8 N (zz40_k8 N m kX kO) (fun j st => (zz40_K8 N m kX kO) (.exit j) st) N l0 x3 y4 t10 t11 t18 t19 t26 t27)).trans (congrArg (fun k => zz40_l8 N k N l0 x3 y4 t10 t11 t18 t19 t26 t27) h)
theorem zz40_step5 (N : Nat) (m : Nat) (kX : St → Option ((Option Y4) × Unit)) (kO : Nat → St → Option ((Option Y4) × Unit)) (l0 : Y1) (x3 : Int) (t10 : Int) (t11 : Int) (t18 : Int) (t19 : Int) : zz40_R5 N (m + 1) (zz40_E5 kX kO) l0 x3 t10 t11 t18 t19 = zz40_b5 (zz40_R8 N N (zz40_K8 N m kX kO)) (zz40_X5 kX) l0 x3 t10 t11 t18 t19 := by kernel_rfl
theorem zz40_iter5 (N : Nat) (kX : St → Option ((Option Y4) × Unit)) (kO : Nat → St → Option ((Option Y4) × Unit)) : ∀ (n : Nat) (l0 : Y1) (x3 : Int) (t10 : Int) (t11 : Int) (t18 : Int) (t19 : Int), zz40_R5 N n (zz40_E5 kX kO) l0 x3 t10 t11 t18 t19 = zz40_l5 N (zz40_X5 kX) n l0 x3 t10 t11 t18 t19
  | 0, _, _, _, _, _, _ => rfl
  | m + 1, l0, x3, t10, t11, t18, t19 => by
    have hrec : zz40_R5 N m (zz40_E5 kX kO) = (zz40_l5 N (zz40_X5 kX) m) := (funext fun l0 => (funext fun x3 => (funext fun t10 => (funext fun t11 => (funext fun t18 => (funext fun t19 => zz40_iter5 N kX kO m l0 x3 t10 t11 t18 t19))))))
    refine (zz40_step5 N m kX kO l0 x3 t10 t11 t18 t19).trans ?_
    rw [(funext fun l0 => (funext fun x3 => (funext fun y4 => (funext fun t10 => (funext fun t11 => (funext fun t18 => (funext fun t19 => (funext fun t26 => (funext fun t27 => zz40_in8 N m kX kO (zz40_l5 N (zz40_X5 kX) m) hrec l0 x3 y4 t10 t11 t18 t19 t26 t27)))))))))]
    rfl
noncomputable abbrev zz40_K5 (N : Nat) (m : Nat) (kX : St → Option ((Option Y4) × Unit)) (kO : Nat → St → Option ((Option Y4) × Unit)) : Ex → St → Option ((Option Y4) × Unit) := (blockK 2 (blockK 1 (seqK ((A_zz40).shape 29) (run (A_zz40) N (codeAt Try.f148 [1, 0, 1, 0, 0, 1, 1, 1])) (iterK ((A_zz40).shape 4) (run (A_zz40) N (codeAt Try.f148 [1, 0, 1, 0, 0])) m (zz40_E2 kX kO)))))
noncomputable abbrev zz40_k5 (N : Nat) (m : Nat) (kX : St → Option ((Option Y4) × Unit)) (kO : Nat → St → Option ((Option Y4) × Unit)) : St → Option ((Option Y4) × Unit) := fun st' => run (A_zz40) N (codeAt Try.f148 [1, 0, 1, 0, 0, 1, 1, 1]) st' (iterK ((A_zz40).shape 4) (run (A_zz40) N (codeAt Try.f148 [1, 0, 1, 0, 0])) m (zz40_E2 kX kO))
theorem zz40_after5 (N : Nat) (m : Nat) (kX : St → Option ((Option Y4) × Unit)) (kO : Nat → St → Option ((Option Y4) × Unit)) (l0 : Y1) (t10 : Int) (t11 : Int) : zz40_X5 (zz40_k5 N m kX kO) l0 t10 t11 = zz40_a5 (zz40_R2 N m (zz40_E2 kX kO)) l0 t10 t11 := by kernel_rfl
theorem zz40_in5 (N : Nat) (m : Nat) (kX : St → Option ((Option Y4) × Unit)) (kO : Nat → St → Option ((Option Y4) × Unit)) (recF : Y1 → Int → Int → Option ((Option Y4) × Unit)) (hrec : zz40_R2 N m (zz40_E2 kX kO) = recF) (l0 : Y1) (x3 : Int) (t10 : Int) (t11 : Int) (t18 : Int) (t19 : Int) : zz40_R5 N N (zz40_K5 N m kX kO) l0 x3 t10 t11 t18 t19 = zz40_F5 N recF (zz40_X2 kX) l0 x3 t10 t11 t18 t19 :=
  have h : zz40_X5 (zz40_k5 N m kX kO) = (zz40_a5 recF) := (funext fun l0 => (funext fun t10 => (funext fun t11 => (zz40_after5 N m kX kO l0 t10 t11).trans (by rw [hrec]))))
  ((iter_ex (fun st => by kernel_rfl) (fun st => by kernel_rfl)).trans (zz40_iter5 N (zz40_k5 N m kX kO) (fun j st => (zz40_K5 N m kX kO) (.exit j) st) N l0 x3 t10 t11 t18 t19)).trans (congrArg (fun k => zz40_l5 N k N l0 x3 t10 t11 t18 t19) h)
theorem zz40_step2 (N : Nat) (m : Nat) (kX : St → Option ((Option Y4) × Unit)) (kO : Nat → St → Option ((Option Y4) × Unit)) (l0 : Y1) (t10 : Int) (t11 : Int) : zz40_R2 N (m + 1) (zz40_E2 kX kO) l0 t10 t11 = zz40_b2 (zz40_R5 N N (zz40_K5 N m kX kO)) (zz40_X2 kX) l0 t10 t11 := by kernel_rfl
theorem zz40_iter2 (N : Nat) (kX : St → Option ((Option Y4) × Unit)) (kO : Nat → St → Option ((Option Y4) × Unit)) : ∀ (n : Nat) (l0 : Y1) (t10 : Int) (t11 : Int), zz40_R2 N n (zz40_E2 kX kO) l0 t10 t11 = zz40_l2 N (zz40_X2 kX) n l0 t10 t11
  | 0, _, _, _ => rfl
  | m + 1, l0, t10, t11 => by
    have hrec : zz40_R2 N m (zz40_E2 kX kO) = (zz40_l2 N (zz40_X2 kX) m) := (funext fun l0 => (funext fun t10 => (funext fun t11 => zz40_iter2 N kX kO m l0 t10 t11)))
    refine (zz40_step2 N m kX kO l0 t10 t11).trans ?_
    rw [(funext fun l0 => (funext fun x3 => (funext fun t10 => (funext fun t11 => (funext fun t18 => (funext fun t19 => zz40_in5 N m kX kO (zz40_l2 N (zz40_X2 kX) m) hrec l0 x3 t10 t11 t18 t19))))))]
    rfl
noncomputable abbrev zz40_K2 (N : Nat) : Ex → St → Option ((Option Y4) × Unit) := (blockK 0 (seqK ((A_zz40).shape 31) (run (A_zz40) N (codeAt Try.f148 [1, 1])) zz40_z))
noncomputable abbrev zz40_k2 (N : Nat) : St → Option ((Option Y4) × Unit) := fun st' => run (A_zz40) N (codeAt Try.f148 [1, 1]) st' zz40_z
theorem zz40_after2 (N : Nat) : zz40_X2 (zz40_k2 N) = zz40_a2 := by kernel_rfl
theorem zz40_in2 (N : Nat) (l0 : Y1) (t10 : Int) (t11 : Int) : zz40_R2 N N (zz40_K2 N) l0 t10 t11 = zz40_F2 N l0 t10 t11 :=
  have h : zz40_X2 (zz40_k2 N) = (zz40_a2) := zz40_after2 N
  ((iter_ex (fun st => by kernel_rfl) (fun st => by kernel_rfl)).trans (zz40_iter2 N (zz40_k2 N) (fun j st => (zz40_K2 N) (.exit j) st) N l0 t10 t11)).trans (congrArg (fun k => zz40_l2 N k N l0 t10 t11) h)
theorem run0_zz40 (N : Nat) (x : (S_zz40).a.den) : runF (A_zz40) N Try.f148 S_zz40 x = (zz40_s (zz40_R2 N N (zz40_K2 N)) x.1) := by kernel_rfl
theorem run_zz40 (N : Nat) (x : (S_zz40).a.den) : runF (A_zz40) N Try.f148 S_zz40 x = zz40 N x.1 := by
  refine (run0_zz40 N x).trans ?_
  rw [(funext fun l0 => (funext fun t10 => (funext fun t11 => zz40_in2 N l0 t10 t11)))]
  rfl
theorem fn_zz40 : FnOk Try.prog 148 := ⟨_, Try.func148, by kernel_rfl, by kernel_rfl⟩
theorem good_zz40 : Gx.Good Try.prog 148 S_zz40 := good_of_run Try.func148 (of_decide_eq_true (by kernel_rfl)) fun x r h => ⟨A_zz40, big, mkCfg_ok tabOk, mkCfg_sigs (show SigsOk Try.prog [] from trivial), (run_zz40 big x).trans h⟩

/-! zz41 -/
def zz41_s (p_0 : Y2) : Option ((Y1 × (Bool × Unit)) × Unit) :=
  (zz39 p_0).bind fun rq1 =>
  cond rq1.1.2.1
  ((zz40 big rq1.1.1).bind fun rq2 =>
  some ((rq1.1.1, rq2.1.isNone, ()), (())))
  (some ((rq1.1.1, false, ()), (())))
def zz41 (p_0 : Y2) : Option ((Y1 × (Bool × Unit)) × Unit) := zz41_s p_0
def S_zz41 : Sig := { a := (.pair (.pair (.sl (.sl I)) .unit) .unit), md := [0], mf := [], m := .unit, r := (.tup (.pair (.opt (.pair (.sl (.sl .bool)) (.pair (.sl (.sl I)) (.pair (.sl (.sl I)) .unit)))) (.pair .bool .unit))), rf := .i, f := fun x => zz41 x.1 }
def A_zz41 : Cfg := mkCfg tab [(68, S_zz39), (148, S_zz40)] []
theorem run_zz41 (N : Nat) (x : (S_zz41).a.den) : runF (A_zz41) N Try.f130 S_zz41 x = zz41 x.1 := by kernel_rfl
theorem fn_zz41 : FnOk Try.prog 130 := ⟨_, Try.func130, by kernel_rfl, by kernel_rfl⟩
theorem good_zz41 : Gx.Good Try.prog 130 S_zz41 := good_of_run Try.func130 (of_decide_eq_true (by kernel_rfl)) fun x r h => ⟨A_zz41, big, mkCfg_ok tabOk, mkCfg_sigs (show SigsOk Try.prog [(68, S_zz39), (148, S_zz40)] from ⟨⟨fn_zz39, good_zz39⟩, ⟨fn_zz40, good_zz40⟩, trivial⟩), (run_zz41 big x).trans h⟩

/-! zz42 -/
def zz42_b3 (rec : Y1 → Int → Int → Int → Option (Int × Unit)) (k : Int → Option (Int × Unit)) (l0 : Y1) (b3 : Int) (t9 : Int) (t10 : Int) : Option (Int × Unit) :=
  cond (decide (t10 < t9))
  ((l0).bind fun xq2 =>
  (atI xq2.2.1 b3).bind fun xq3 =>
  (atI xq3 t10).bind fun xq4 =>
  rec l0 xq4 t9 (IntKind.i64.wrap (t10 + (1 : Int))))
  (k b3)
def zz42_a3 (b3 : Int) : Option (Int × Unit) :=
  some (b3, (()))
def zz42_s (L3 : Y1 → Int → Int → Int → Option (Int × Unit)) (l_0 : Y1) : Option (Int × Unit) :=
  (l_0).bind fun xq1 =>
  L3 l_0 (0 : Int) (xq1.1.length : Int) (0 : Int)
def zz42_l3 (N : Nat) (k : Int → Option (Int × Unit)) : Nat → Y1 → Int → Int → Int → Option (Int × Unit)
  | 0, _, _, _, _ => none
  | m + 1, l0, b3, t9, t10 => zz42_b3 (zz42_l3 N k m) k l0 b3 t9 t10
def zz42_F3 (N : Nat) (l0 : Y1) (b3 : Int) (t9 : Int) (t10 : Int) : Option (Int × Unit) := zz42_l3 N (zz42_a3) N l0 b3 t9 t10
def zz42 (N : Nat) (l_0 : Y1) : Option (Int × Unit) := zz42_s (zz42_F3 N) l_0
def S_zz42 : Sig := { a := (.pair (.opt (.pair (.sl (.sl .bool)) (.pair (.sl (.sl I)) (.pair (.sl (.sl I)) .unit)))) .unit), md := [0], mf := [], m := .unit, r := I, rf := .i, f := fun x => zz42 big x.1 }
def A_zz42 : Cfg := mkCfg tab [] [(6, [.as (.opt (.pair (.sl (.sl .bool)) (.pair (.sl (.sl I)) (.pair (.sl (.sl I)) .unit)))) .i, .drop, .drop, .as I .i, .drop, .drop, .drop, .drop, .drop, .as I .i, .as I .i]), (15, [.drop, .drop, .drop, .as I .i])]
noncomputable def zz42_R3 (N n : Nat) (K : Ex → St → Option (Int × Unit)) (l0 : Y1) (b3 : Int) (t9 : Int) (t10 : Int) : Option (Int × Unit) := iter ((A_zz42).shape 6) (run (A_zz42) N (codeAt Try.f70 [1, 1, 0, 1, 0, 0])) n ([.val (.opt (.pair (.sl (.sl .bool)) (.pair (.sl (.sl I)) (.pair (.sl (.sl I)) .unit)))) .i l0, .u, .u, .val I .i b3, .u, .u, .u, .u, .u, .val I .i t9, .val I .i t10] ++ List.replicate 14 .u) K
noncomputable abbrev zz42_z : Ex → St → Option (Int × Unit) := finish (A_zz42) S_zz42 Try.f70.results.toList
noncomputable abbrev zz42_X3 (kX : St → Option (Int × Unit)) : Int → Option (Int × Unit) := fun (b3 : Int) => kX ([.u, .u, .u, .val I .i b3] ++ List.replicate 21 .u)
noncomputable abbrev zz42_E3 (kX : St → Option (Int × Unit)) (kO : Nat → St → Option (Int × Unit)) : Ex → St → Option (Int × Unit) := exK zz42_z 0 ((A_zz42).shape 15) kX kO
theorem zz42_step3 (N : Nat) (m : Nat) (kX : St → Option (Int × Unit)) (kO : Nat → St → Option (Int × Unit)) (l0 : Y1) (b3 : Int) (t9 : Int) (t10 : Int) : zz42_R3 N (m + 1) (zz42_E3 kX kO) l0 b3 t9 t10 = zz42_b3 (zz42_R3 N m (zz42_E3 kX kO)) (zz42_X3 kX) l0 b3 t9 t10 := by kernel_rfl
theorem zz42_iter3 (N : Nat) (kX : St → Option (Int × Unit)) (kO : Nat → St → Option (Int × Unit)) : ∀ (n : Nat) (l0 : Y1) (b3 : Int) (t9 : Int) (t10 : Int), zz42_R3 N n (zz42_E3 kX kO) l0 b3 t9 t10 = zz42_l3 N (zz42_X3 kX) n l0 b3 t9 t10
  | 0, _, _, _, _ => rfl
  | m + 1, l0, b3, t9, t10 => by
    have hrec : zz42_R3 N m (zz42_E3 kX kO) = (zz42_l3 N (zz42_X3 kX) m) := (funext fun l0 => (funext fun b3 => (funext fun t9 => (funext fun t10 => zz42_iter3 N kX kO m l0 b3 t9 t10))))
    refine (zz42_step3 N m kX kO l0 b3 t9 t10).trans ?_
    rw [hrec]
    rfl
noncomputable abbrev zz42_K3 (N : Nat) : Ex → St → Option (Int × Unit) := (blockK 0 (seqK ((A_zz42).shape 15) (run (A_zz42) N (codeAt Try.f70 [1, 1, 1])) zz42_z))
noncomputable abbrev zz42_k3 (N : Nat) : St → Option (Int × Unit) := fun st' => run (A_zz42) N (codeAt Try.f70 [1, 1, 1]) st' zz42_z
theorem zz42_after3 (N : Nat) (b3 : Int) : zz42_X3 (zz42_k3 N) b3 = zz42_a3 b3 := by kernel_rfl
theorem zz42_in3 (N : Nat) (l0 : Y1) (b3 : Int) (t9 : Int) (t10 : Int) : zz42_R3 N N (zz42_K3 N) l0 b3 t9 t10 = zz42_F3 N l0 b3 t9 t10 :=
  have h : zz42_X3 (zz42_k3 N) = (zz42_a3) := (funext fun b3 => zz42_after3 N b3)
  ((iter_ex (fun st => by kernel_rfl) (fun st => by kernel_rfl)).trans (zz42_iter3 N (zz42_k3 N) (fun j st => (zz42_K3 N) (.exit j) st) N l0 b3 t9 t10)).trans (congrArg (fun k => zz42_l3 N k N l0 b3 t9 t10) h)
theorem run0_zz42 (N : Nat) (x : (S_zz42).a.den) : runF (A_zz42) N Try.f70 S_zz42 x = (zz42_s (zz42_R3 N N (zz42_K3 N)) x.1) := by kernel_rfl
theorem run_zz42 (N : Nat) (x : (S_zz42).a.den) : runF (A_zz42) N Try.f70 S_zz42 x = zz42 N x.1 := by
  refine (run0_zz42 N x).trans ?_
  rw [(funext fun l0 => (funext fun b3 => (funext fun t9 => (funext fun t10 => zz42_in3 N l0 b3 t9 t10))))]
  rfl
theorem fn_zz42 : FnOk Try.prog 70 := ⟨_, Try.func70, by kernel_rfl, by kernel_rfl⟩
theorem good_zz42 : Gx.Good Try.prog 70 S_zz42 := good_of_run Try.func70 (of_decide_eq_true (by kernel_rfl)) fun x r h => ⟨A_zz42, big, mkCfg_ok tabOk, mkCfg_sigs (show SigsOk Try.prog [] from trivial), (run_zz42 big x).trans h⟩

/-! zz43 -/
def zz43_b3 (rec : Y1 → Int → Int → Int → Option (Int × Unit)) (k : Int → Option (Int × Unit)) (l0 : Y1) (t3 : Int) (t9 : Int) (t10 : Int) : Option (Int × Unit) :=
  cond (decide (t10 < t9))
  ((l0).bind fun xq2 =>
  (atI xq2.2.2.1 t3).bind fun xq3 =>
  (atI xq3 t10).bind fun xq4 =>
  rec l0 xq4 t9 (IntKind.i64.wrap (t10 + (1 : Int))))
  (k t3)
def zz43_a3 (t3 : Int) : Option (Int × Unit) :=
  some (t3, (()))
def zz43_s (L3 : Y1 → Int → Int → Int → Option (Int × Unit)) (l_0 : Y1) : Option (Int × Unit) :=
  (l_0).bind fun xq1 =>
  L3 l_0 (0 : Int) (xq1.1.length : Int) (0 : Int)
def zz43_l3 (N : Nat) (k : Int → Option (Int × Unit)) : Nat → Y1 → Int → Int → Int → Option (Int × Unit)
  | 0, _, _, _, _ => none
  | m + 1, l0, t3, t9, t10 => zz43_b3 (zz43_l3 N k m) k l0 t3 t9 t10
def zz43_F3 (N : Nat) (l0 : Y1) (t3 : Int) (t9 : Int) (t10 : Int) : Option (Int × Unit) := zz43_l3 N (zz43_a3) N l0 t3 t9 t10
def zz43 (N : Nat) (l_0 : Y1) : Option (Int × Unit) := zz43_s (zz43_F3 N) l_0
def S_zz43 : Sig := { a := (.pair (.opt (.pair (.sl (.sl .bool)) (.pair (.sl (.sl I)) (.pair (.sl (.sl I)) .unit)))) .unit), md := [0], mf := [], m := .unit, r := I, rf := .i, f := fun x => zz43 big x.1 }
def A_zz43 : Cfg := mkCfg tab [] [(6, [.as (.opt (.pair (.sl (.sl .bool)) (.pair (.sl (.sl I)) (.pair (.sl (.sl I)) .unit)))) .i, .drop, .drop, .as I .i, .drop, .drop, .drop, .drop, .drop, .as I .i, .as I .i]), (15, [.drop, .drop, .drop, .as I .i])]
noncomputable def zz43_R3 (N n : Nat) (K : Ex → St → Option (Int × Unit)) (l0 : Y1) (t3 : Int) (t9 : Int) (t10 : Int) : Option (Int × Unit) := iter ((A_zz43).shape 6) (run (A_zz43) N (codeAt Try.f122 [1, 1, 0, 1, 0, 0])) n ([.val (.opt (.pair (.sl (.sl .bool)) (.pair (.sl (.sl I)) (.pair (.sl (.sl I)) .unit)))) .i l0, .u, .u, .val I .i t3, .u, .u, .u, .u, .u, .val I .i t9, .val I .i t10] ++ List.replicate 14 .u) K
noncomputable abbrev zz43_z : Ex → St → Option (Int × Unit) := finish (A_zz43) S_zz43 Try.f122.results.toList
noncomputable abbrev zz43_X3 (kX : St → Option (Int × Unit)) : Int → Option (Int × Unit) := fun (t3 : Int) => kX ([.u, .u, .u, .val I .i t3] ++ List.replicate 21 .u)
noncomputable abbrev zz43_E3 (kX : St → Option (Int × Unit)) (kO : Nat → St → Option (Int × Unit)) : Ex → St → Option (Int × Unit) := exK zz43_z 0 ((A_zz43).shape 15) kX kO
theorem zz43_step3 (N : Nat) (m : Nat) (kX : St → Option (Int × Unit)) (kO : Nat → St → Option (Int × Unit)) (l0 : Y1) (t3 : Int) (t9 : Int) (t10 : Int) : zz43_R3 N (m + 1) (zz43_E3 kX kO) l0 t3 t9 t10 = zz43_b3 (zz43_R3 N m (zz43_E3 kX kO)) (zz43_X3 kX) l0 t3 t9 t10 := by kernel_rfl
theorem zz43_iter3 (N : Nat) (kX : St → Option (Int × Unit)) (kO : Nat → St → Option (Int × Unit)) : ∀ (n : Nat) (l0 : Y1) (t3 : Int) (t9 : Int) (t10 : Int), zz43_R3 N n (zz43_E3 kX kO) l0 t3 t9 t10 = zz43_l3 N (zz43_X3 kX) n l0 t3 t9 t10
  | 0, _, _, _, _ => rfl
  | m + 1, l0, t3, t9, t10 => by
    have hrec : zz43_R3 N m (zz43_E3 kX kO) = (zz43_l3 N (zz43_X3 kX) m) := (funext fun l0 => (funext fun t3 => (funext fun t9 => (funext fun t10 => zz43_iter3 N kX kO m l0 t3 t9 t10))))
    refine (zz43_step3 N m kX kO l0 t3 t9 t10).trans ?_
    rw [hrec]
    rfl
noncomputable abbrev zz43_K3 (N : Nat) : Ex → St → Option (Int × Unit) := (blockK 0 (seqK ((A_zz43).shape 15) (run (A_zz43) N (codeAt Try.f122 [1, 1, 1])) zz43_z))
noncomputable abbrev zz43_k3 (N : Nat) : St → Option (Int × Unit) := fun st' => run (A_zz43) N (codeAt Try.f122 [1, 1, 1]) st' zz43_z
theorem zz43_after3 (N : Nat) (t3 : Int) : zz43_X3 (zz43_k3 N) t3 = zz43_a3 t3 := by kernel_rfl
theorem zz43_in3 (N : Nat) (l0 : Y1) (t3 : Int) (t9 : Int) (t10 : Int) : zz43_R3 N N (zz43_K3 N) l0 t3 t9 t10 = zz43_F3 N l0 t3 t9 t10 :=
  have h : zz43_X3 (zz43_k3 N) = (zz43_a3) := (funext fun t3 => zz43_after3 N t3)
  ((iter_ex (fun st => by kernel_rfl) (fun st => by kernel_rfl)).trans (zz43_iter3 N (zz43_k3 N) (fun j st => (zz43_K3 N) (.exit j) st) N l0 t3 t9 t10)).trans (congrArg (fun k => zz43_l3 N k N l0 t3 t9 t10) h)
theorem run0_zz43 (N : Nat) (x : (S_zz43).a.den) : runF (A_zz43) N Try.f122 S_zz43 x = (zz43_s (zz43_R3 N N (zz43_K3 N)) x.1) := by kernel_rfl
theorem run_zz43 (N : Nat) (x : (S_zz43).a.den) : runF (A_zz43) N Try.f122 S_zz43 x = zz43 N x.1 := by
  refine (run0_zz43 N x).trans ?_
  rw [(funext fun l0 => (funext fun t3 => (funext fun t9 => (funext fun t10 => zz43_in3 N l0 t3 t9 t10))))]
  rfl
theorem fn_zz43 : FnOk Try.prog 122 := ⟨_, Try.func122, by kernel_rfl, by kernel_rfl⟩
theorem good_zz43 : Gx.Good Try.prog 122 S_zz43 := good_of_run Try.func122 (of_decide_eq_true (by kernel_rfl)) fun x r h => ⟨A_zz43, big, mkCfg_ok tabOk, mkCfg_sigs (show SigsOk Try.prog [] from trivial), (run_zz43 big x).trans h⟩

/-! zz44 -/
def zz44_s (c_0 : Int) (p_1 : Y1) (p_2 : Int) (p_3 : Int) (p_4 : Int) : Option (Bool × Unit) :=
  (p_1).bind fun xq1 =>
  (atI xq1.2.1 c_0).bind fun xq2 =>
  (atI xq2 p_2).bind fun xq3 =>
  cond (decide (xq3 = p_3))
  ((p_1).bind fun xq4 =>
  (atI xq4.2.2.1 c_0).bind fun xq5 =>
  (atI xq5 p_2).bind fun xq6 =>
  some (decide (xq6 = p_4), (())))
  (some (false, (())))
def zz44 (c_0 : Int) (p_1 : Y1) (p_2 : Int) (p_3 : Int) (p_4 : Int) : Option (Bool × Unit) := zz44_s c_0 p_1 p_2 p_3 p_4
def S_zz44 : Sig := { a := (.pair I (.pair (.ptr (.opt (.pair (.sl (.sl .bool)) (.pair (.sl (.sl I)) (.pair (.sl (.sl I)) .unit))))) (.pair (.ptr I) (.pair (.ptr I) (.pair (.ptr I) .unit))))), md := [0, 0, 0, 0, 0], mf := [], m := .unit, r := .bool, rf := .i, f := fun x => zz44 x.1 x.2.1 x.2.2.1 x.2.2.2.1 x.2.2.2.2.1 }
def A_zz44 : Cfg := mkCfg tab [] []
theorem run_zz44 (N : Nat) (x : (S_zz44).a.den) : runF (A_zz44) N Try.f150 S_zz44 x = zz44 x.1 x.2.1 x.2.2.1 x.2.2.2.1 x.2.2.2.2.1 := by kernel_rfl
theorem fn_zz44 : FnOk Try.prog 150 := ⟨_, Try.func150, by kernel_rfl, by kernel_rfl⟩
theorem good_zz44 : Gx.Good Try.prog 150 S_zz44 := good_of_run Try.func150 (of_decide_eq_true (by kernel_rfl)) fun x r h => ⟨A_zz44, big, mkCfg_ok tabOk, mkCfg_sigs (show SigsOk Try.prog [] from trivial), (run_zz44 big x).trans h⟩

/-! zz45 -/
def zz45_b3 (rec : (Y1 × (Int × (Int × (Int × Unit)))) → Y4 → Int → Int → Option (Y4 × Unit)) (k : Y4 → Option (Y4 × Unit)) (so1 : (Y1 × (Int × (Int × (Int × Unit))))) (list5 : Y4) (t9 : Int) (t10 : Int) : Option (Y4 × Unit) :=
  cond (decide (t10 < t9))
  ((zz44 t10 so1.1 so1.2.1 so1.2.2.1 so1.2.2.2.1).bind fun rq1 =>
  cond rq1.1
  ((appI list5 [t10]).bind fun xq2 =>
  rec so1 xq2 t9 (IntKind.i64.wrap (t10 + (1 : Int))))
  (rec so1 list5 t9 (IntKind.i64.wrap (t10 + (1 : Int)))))
  (k list5)
def zz45_a3 (list5 : Y4) : Option (Y4 × Unit) :=
  some (list5, (()))
def zz45_s (L3 : (Y1 × (Int × (Int × (Int × Unit)))) → Y4 → Int → Int → Option (Y4 × Unit)) (o_0 : Y5) (so_1 : (Y1 × (Int × (Int × (Int × Unit))))) : Option (Y4 × Unit) :=
  L3 so_1 [] (o_0.length : Int) (0 : Int)
def zz45_l3 (N : Nat) (k : Y4 → Option (Y4 × Unit)) : Nat → (Y1 × (Int × (Int × (Int × Unit)))) → Y4 → Int → Int → Option (Y4 × Unit)
  | 0, _, _, _, _ => none
  | m + 1, so1, list5, t9, t10 => zz45_b3 (zz45_l3 N k m) k so1 list5 t9 t10
def zz45_F3 (N : Nat) (so1 : (Y1 × (Int × (Int × (Int × Unit))))) (list5 : Y4) (t9 : Int) (t10 : Int) : Option (Y4 × Unit) := zz45_l3 N (zz45_a3) N so1 list5 t9 t10
def zz45 (N : Nat) (o_0 : Y5) (so_1 : (Y1 × (Int × (Int × (Int × Unit))))) : Option (Y4 × Unit) := zz45_s (zz45_F3 N) o_0 so_1
def S_zz45 : Sig := { a := (.pair (.sl (.sl .bool)) (.pair (.clo 150 0 (.pair (.ptr (.opt (.pair (.sl (.sl .bool)) (.pair (.sl (.sl I)) (.pair (.sl (.sl I)) .unit))))) (.pair (.ptr I) (.pair (.ptr I) (.pair (.ptr I) .unit))))) .unit)), md := [0, 0], mf := [], m := .unit, r := (.sl I), rf := (.o .i), f := fun x => zz45 big x.1 x.2.1 }
def A_zz45 : Cfg := mkCfg tab [(150, S_zz44)] [(6, [.drop, .as (.clo 150 0 (.pair (.ptr (.opt (.pair (.sl (.sl .bool)) (.pair (.sl (.sl I)) (.pair (.sl (.sl I)) .unit))))) (.pair (.ptr I) (.pair (.ptr I) (.pair (.ptr I) .unit))))) .i, .drop, .drop, .drop, .as (.sl I) (.o .i), .drop, .drop, .drop, .as I .i, .as I .i]), (17, [.drop, .drop, .drop, .drop, .drop, .as (.sl I) (.o .i)])]
noncomputable def zz45_R3 (N n : Nat) (K : Ex → St → Option (Y4 × Unit)) (so1 : (Y1 × (Int × (Int × (Int × Unit))))) (list5 : Y4) (t9 : Int) (t10 : Int) : Option (Y4 × Unit) := iter ((A_zz45).shape 6) (run (A_zz45) N (codeAt Try.f65 [1, 1, 0, 1, 0, 0])) n ([.u, .val (.clo 150 0 (.pair (.ptr (.opt (.pair (.sl (.sl .bool)) (.pair (.sl (.sl I)) (.pair (.sl (.sl I)) .unit))))) (.pair (.ptr I) (.pair (.ptr I) (.pair (.ptr I) .unit))))) .i so1, .u, .u, .u, .val (.sl I) (.o .i) list5, .u, .u, .u, .val I .i t9, .val I .i t10] ++ List.replicate 11 .u) K
noncomputable abbrev zz45_z : Ex → St → Option (Y4 × Unit) := finish (A_zz45) S_zz45 Try.f65.results.toList
noncomputable abbrev zz45_X3 (kX : St → Option (Y4 × Unit)) : Y4 → Option (Y4 × Unit) := fun (list5 : Y4) => kX ([.u, .u, .u, .u, .u, .val (.sl I) (.o .i) list5] ++ List.replicate 16 .u)
noncomputable abbrev zz45_E3 (kX : St → Option (Y4 × Unit)) (kO : Nat → St → Option (Y4 × Unit)) : Ex → St → Option (Y4 × Unit) := exK zz45_z 0 ((A_zz45).shape 17) kX kO
theorem zz45_step3 (N : Nat) (m : Nat) (kX : St → Option (Y4 × Unit)) (kO : Nat → St → Option (Y4 × Unit)) (so1 : (Y1 × (Int × (Int × (Int × Unit))))) (list5 : Y4) (t9 : Int) (t10 : Int) : zz45_R3 N (m + 1) (zz45_E3 kX kO) so1 list5 t9 t10 = zz45_b3 (zz45_R3 N m (zz45_E3 kX kO)) (zz45_X3 kX) so1 list5 t9 t10 := by kernel_rfl
theorem zz45_iter3 (N : Nat) (kX : St → Option (Y4 × Unit)) (kO : Nat → St → Option (Y4 × Unit)) : ∀ (n : Nat) (so1 : (Y1 × (Int × (Int × (Int × Unit))))) (list5 : Y4) (t9 : Int) (t10 : Int), zz45_R3 N n (zz45_E3 kX kO) so1 list5 t9 t10 = zz45_l3 N (zz45_X3 kX) n so1 list5 t9 t10
  | 0, _, _, _, _ => rfl
  | m + 1, so1, list5, t9, t10 => by
    have hrec : zz45_R3 N m (zz45_E3 kX kO) = (zz45_l3 N (zz45_X3 kX) m) := (funext fun so1 => (funext fun list5 => (funext fun t9 => (funext fun t10 => zz45_iter3 N kX kO m so1 list5 t9 t10))))
    refine (zz45_step3 N m kX kO so1 list5 t9 t10).trans ?_
    rw [hrec]
    rfl
noncomputable abbrev zz45_K3 (N : Nat) : Ex → St → Option (Y4 × Unit) := (blockK 0 (seqK ((A_zz45).shape 17) (run (A_zz45) N (codeAt Try.f65 [1, 1, 1])) zz45_z))
noncomputable abbrev zz45_k3 (N : Nat) : St → Option (Y4 × Unit) := fun st' => run (A_zz45) N (codeAt Try.f65 [1, 1, 1]) st' zz45_z
theorem zz45_after3 (N : Nat) (list5 : Y4) : zz45_X3 (zz45_k3 N) list5 = zz45_a3 list5 := by kernel_rfl
theorem zz45_in3 (N : Nat) (so1 : (Y1 × (Int × (Int × (Int × Unit))))) (list5 : Y4) (t9 : Int) (t10 : Int) : zz45_R3 N N (zz45_K3 N) so1 list5 t9 t10 = zz45_F3 N so1 list5 t9 t10 :=
  have h : zz45_X3 (zz45_k3 N) = (zz45_a3) := (funext fun list5 => zz45_after3 N list5)
  ((iter_ex (fun st => by kernel_rfl) (fun st => by kernel_rfl)).trans (zz45_iter3 N (zz45_k3 N) (fun j st => (zz45_K3 N) (.exit j) st) N so1 list5 t9 t10)).trans (congrArg (fun k => zz45_l3 N k N so1 list5 t9 t10) h)
theorem run0_zz45 (N : Nat) (x : (S_zz45).a.den) : runF (A_zz45) N Try.f65 S_zz45 x = (zz45_s (zz45_R3 N N (zz45_K3 N)) x.1 x.2.1) := by kernel_rfl
theorem run_zz45 (N : Nat) (x : (S_zz45).a.den) : runF (A_zz45) N Try.f65 S_zz45 x = zz45 N x.1 x.2.1 := by
  refine (run0_zz45 N x).trans ?_
  rw [(funext fun so1 => (funext fun list5 => (funext fun t9 => (funext fun t10 => zz45_in3 N so1 list5 t9 t10))))]
  rfl
theorem fn_zz45 : FnOk Try.prog 65 := ⟨_, Try.func65, by kernel_rfl, by kernel_rfl⟩
theorem good_zz45 : Gx.Good Try.prog 65 S_zz45 := good_of_run Try.func65 (of_decide_eq_true (by kernel_rfl)) fun x r h => ⟨A_zz45, big, mkCfg_ok tabOk, mkCfg_sigs (show SigsOk Try.prog [(150, S_zz44)] from ⟨⟨fn_zz44, good_zz44⟩, trivial⟩), (run_zz45 big x).trans h⟩

/-! zz46 -/
def zz46_s (l_0 : Y1) (x_1 : Int) (y_2 : Int) (z_3 : Int) : Option (Y4 × Unit) :=
  (l_0).bind fun xq1 =>
  (zz45 big xq1.1 (l_0, y_2, x_1, z_3, ())).bind fun rq2 =>
  some (rq2.1, (()))
def zz46 (l_0 : Y1) (x_1 : Int) (y_2 : Int) (z_3 : Int) : Option (Y4 × Unit) := zz46_s l_0 x_1 y_2 z_3
def S_zz46 : Sig := { a := (.pair (.opt (.pair (.sl (.sl .bool)) (.pair (.sl (.sl I)) (.pair (.sl (.sl I)) .unit)))) (.pair I (.pair I (.pair I .unit)))), md := [0, 0, 0, 0], mf := [], m := .unit, r := (.sl I), rf := (.o .i), f := fun x => zz46 x.1 x.2.1 x.2.2.1 x.2.2.2.1 }
def A_zz46 : Cfg := mkCfg tab [(65, S_zz45)] [(3, [.drop, .drop, .drop, .drop, .as (.ptr (.opt (.pair (.sl (.sl .bool)) (.pair (.sl (.sl I)) (.pair (.sl (.sl I)) .unit))))) .i, .as (.ptr I) .i, .as (.ptr I) .i, .as (.ptr I) .i])]
theorem run_zz46 (N : Nat) (x : (S_zz46).a.den) : runF (A_zz46) N Try.f139 S_zz46 x = zz46 x.1 x.2.1 x.2.2.1 x.2.2.2.1 := by kernel_rfl
theorem fn_zz46 : FnOk Try.prog 139 := ⟨_, Try.func139, by kernel_rfl, by kernel_rfl⟩
theorem good_zz46 : Gx.Good Try.prog 139 S_zz46 := good_of_run Try.func139 (of_decide_eq_true (by kernel_rfl)) fun x r h => ⟨A_zz46, big, mkCfg_ok tabOk, mkCfg_sigs (show SigsOk Try.prog [(65, S_zz45)] from ⟨⟨fn_zz45, good_zz45⟩, trivial⟩), (run_zz46 big x).trans h⟩

/-! zz47 -/
def zz47_s (l_0 : Y1) (x_1 : Int) : Option (Y4 × Unit) :=
  (zz42 big l_0).bind fun rq1 =>
  (zz43 big l_0).bind fun rq2 =>
  (zz46 l_0 rq1.1 x_1 rq2.1).bind fun rq3 =>
  some (rq3.1, (()))
def zz47 (l_0 : Y1) (x_1 : Int) : Option (Y4 × Unit) := zz47_s l_0 x_1
def S_zz47 : Sig := { a := (.pair (.opt (.pair (.sl (.sl .bool)) (.pair (.sl (.sl I)) (.pair (.sl (.sl I)) .unit)))) (.pair I .unit)), md := [0, 0], mf := [], m := .unit, r := (.sl I), rf := (.o .i), f := fun x => zz47 x.1 x.2.1 }
def A_zz47 : Cfg := mkCfg tab [(70, S_zz42), (122, S_zz43), (139, S_zz46)] []
theorem run_zz47 (N : Nat) (x : (S_zz47).a.den) : runF (A_zz47) N Try.f114 S_zz47 x = zz47 x.1 x.2.1 := by kernel_rfl
theorem fn_zz47 : FnOk Try.prog 114 := ⟨_, Try.func114, by kernel_rfl, by kernel_rfl⟩
theorem good_zz47 : Gx.Good Try.prog 114 S_zz47 := good_of_run Try.func114 (of_decide_eq_true (by kernel_rfl)) fun x r h => ⟨A_zz47, big, mkCfg_ok tabOk, mkCfg_sigs (show SigsOk Try.prog [(70, S_zz42), (122, S_zz43), (139, S_zz46)] from ⟨⟨fn_zz42, good_zz42⟩, ⟨fn_zz43, good_zz43⟩, ⟨fn_zz46, good_zz46⟩, trivial⟩), (run_zz47 big x).trans h⟩

/-! zz48 -/
def zz48_s (x_0 : Int) (p_1 : Y1) : Option (Bool × Unit) :=
  (zz47 p_1 x_0).bind fun rq1 =>
  some (decide ((rq1.1.length : Int) = (0 : Int)), (()))
def zz48 (x_0 : Int) (p_1 : Y1) : Option (Bool × Unit) := zz48_s x_0 p_1
def S_zz48 : Sig := { a := (.pair I (.pair (.ptr (.opt (.pair (.sl (.sl .bool)) (.pair (.sl (.sl I)) (.pair (.sl (.sl I)) .unit))))) .unit)), md := [0, 0], mf := [], m := .unit, r := .bool, rf := .i, f := fun x => zz48 x.1 x.2.1 }
def A_zz48 : Cfg := mkCfg tab [(114, S_zz47)] []
theorem run_zz48 (N : Nat) (x : (S_zz48).a.den) : runF (A_zz48) N Try.f149 S_zz48 x = zz48 x.1 x.2.1 := by kernel_rfl
theorem fn_zz48 : FnOk Try.prog 149 := ⟨_, Try.func149, by kernel_rfl, by kernel_rfl⟩
theorem good_zz48 : Gx.Good Try.prog 149 S_zz48 := good_of_run Try.func149 (of_decide_eq_true (by kernel_rfl)) fun x r h => ⟨A_zz48, big, mkCfg_ok tabOk, mkCfg_sigs (show SigsOk Try.prog [(114, S_zz47)] from ⟨⟨fn_zz47, good_zz47⟩, trivial⟩), (run_zz48 big x).trans h⟩

/-! zz49 -/
def zz49_b3 (rec : (Y1 × Unit) → Y4 → Int → Int → Option (Y4 × Unit)) (k : Y4 → Option (Y4 × Unit)) (so1 : (Y1 × Unit)) (list5 : Y4) (t9 : Int) (t10 : Int) : Option (Y4 × Unit) :=
  cond (decide (t10 < t9))
  ((zz48 t10 so1.1).bind fun rq1 =>
  cond rq1.1
  ((appI list5 [t10]).bind fun xq2 =>
  rec so1 xq2 t9 (IntKind.i64.wrap (t10 + (1 : Int))))
  (rec so1 list5 t9 (IntKind.i64.wrap (t10 + (1 : Int)))))
  (k list5)
def zz49_a3 (list5 : Y4) : Option (Y4 × Unit) :=
  some (list5, (()))
def zz49_s (L3 : (Y1 × Unit) → Y4 → Int → Int → Option (Y4 × Unit)) (o_0 : Y5) (so_1 : (Y1 × Unit)) : Option (Y4 × Unit) :=
  L3 so_1 [] (o_0.length : Int) (0 : Int)
def zz49_l3 (N : Nat) (k : Y4 → Option (Y4 × Unit)) : Nat → (Y1 × Unit) → Y4 → Int → Int → Option (Y4 × Unit)
  | 0, _, _, _, _ => none
  | m + 1, so1, list5, t9, t10 => zz49_b3 (zz49_l3 N k m) k so1 list5 t9 t10
def zz49_F3 (N : Nat) (so1 : (Y1 × Unit)) (list5 : Y4) (t9 : Int) (t10 : Int) : Option (Y4 × Unit) := zz49_l3 N (zz49_a3) N so1 list5 t9 t10
def zz49 (N : Nat) (o_0 : Y5) (so_1 : (Y1 × Unit)) : Option (Y4 × Unit) := zz49_s (zz49_F3 N) o_0 so_1
def S_zz49 : Sig := { a := (.pair (.sl (.sl .bool)) (.pair (.clo 149 0 (.pair (.ptr (.opt (.pair (.sl (.sl .bool)) (.pair (.sl (.sl I)) (.pair (.sl (.sl I)) .unit))))) .unit)) .unit)), md := [0, 0], mf := [], m := .unit, r := (.sl I), rf := (.o .i), f := fun x => zz49 big x.1 x.2.1 }
def A_zz49 : Cfg := mkCfg tab [(149, S_zz48)] [(6, [.drop, .as (.clo 149 0 (.pair (.ptr (.opt (.pair (.sl (.sl .bool)) (.pair (.sl (.sl I)) (.pair (.sl (.sl I)) .unit))))) .unit)) .i, .drop, .drop, .drop, .as (.sl I) (.o .i), .drop, .drop, .drop, .as I .i, .as I .i]), (17, [.drop, .drop, .drop, .drop, .drop, .as (.sl I) (.o .i)])]
noncomputable def zz49_R3 (N n : Nat) (K : Ex → St → Option (Y4 × Unit)) (so1 : (Y1 × Unit)) (list5 : Y4) (t9 : Int) (t10 : Int) : Option (Y4 × Unit) := iter ((A_zz49).shape 6) (run (A_zz49) N (codeAt Try.f65 [1, 1, 0, 1, 0, 0])) n ([.u, .val (.clo 149 0 (.pair (.ptr (.opt (.pair (.sl (.sl .bool)) (.pair (.sl (.sl I)) (.pair (.sl (.sl I)) .unit))))) .unit)) .i so1, .u, .u, .u, .val (.sl I) (.o .i) list5, .u, .u, .u, .val I .i t9, .val I .i t10] ++ List.replicate 11 .u) K
noncomputable abbrev zz49_z : Ex → St → Option (Y4 × Unit) := finish (A_zz49) S_zz49 Try.f65.results.toList
noncomputable abbrev zz49_X3 (kX : St → Option (Y4 × Unit)) : Y4 → Option (Y4 × Unit) := fun (list5 : Y4) => kX ([.u, .u, .u, .u, .u, .val (.sl I) (.o .i) list5] ++ List.replicate 16 .u)
noncomputable abbrev zz49_E3 (kX : St → Option (Y4 × Unit)) (kO : Nat → St → Option (Y4 × Unit)) : Ex → St → Option (Y4 × Unit) := exK zz49_z 0 ((A_zz49).shape 17) kX kO
theorem zz49_step3 (N : Nat) (m : Nat) (kX : St → Option (Y4 × Unit)) (kO : Nat → St → Option (Y4 × Unit)) (so1 : (Y1 × Unit)) (list5 : Y4) (t9 : Int) (t10 : Int) : zz49_R3 N (m + 1) (zz49_E3 kX kO) so1 list5 t9 t10 = zz49_b3 (zz49_R3 N m (zz49_E3 kX kO)) (zz49_X3 kX) so1 list5 t9 t10 := by kernel_rfl
theorem zz49_iter3 (N : Nat) (kX : St → Option (Y4 × Unit)) (kO : Nat → St → Option (Y4 × Unit)) : ∀ (n : Nat) (so1 : (Y1 × Unit)) (list5 : Y4) (t9 : Int) (t10 : Int), zz49_R3 N n (zz49_E3 kX kO) so1 list5 t9 t10 = zz49_l3 N (zz49_X3 kX) n so1 list5 t9 t10
  | 0, _, _, _, _ => rfl
  | m + 1, so1, list5, t9, t10 => by
    have hrec : zz49_R3 N m (zz49_E3 kX kO) = (zz49_l3 N (zz49_X3 kX) m) := (funext fun so1 => (funext fun list5 => (funext fun t9 => (funext fun t10 => zz49_iter3 N kX kO m so1 list5 t9 t10))))
    refine (zz49_step3 N m kX kO so1 list5 t9 t10).trans ?_
    rw [hrec]
    rfl
noncomputable abbrev zz49_K3 (N : Nat) : Ex → St → Option (Y4 × Unit) := (blockK 0 (seqK ((A_zz49).shape 17) (run (A_zz49) N (codeAt Try.f65 [1, 1, 1])) zz49_z))
noncomputable abbrev zz49_k3 (N : Nat) : St → Option (Y4 × Unit) := fun st' => run (A_zz49) N (codeAt Try.f65 [1, 1, 1]) st' zz49_z
theorem zz49_after3 (N : Nat) (list5 : Y4) : zz49_X3 (zz49_k3 N) list5 = zz49_a3 list5 := by kernel_rfl
theorem zz49_in3 (N : Nat) (so1 : (Y1 × Unit)) (list5 : Y4) (t9 : Int) (t10 : Int) : zz49_R3 N N (zz49_K3 N) so1 list5 t9 t10 = zz49_F3 N so1 list5 t9 t10 :=
  have h : zz49_X3 (zz49_k3 N) = (zz49_a3) := (funext fun list5 => zz49_after3 N list5)
  ((iter_ex (fun st => by kernel_rfl) (fun st => by kernel_rfl)).trans (zz49_iter3 N (zz49_k3 N) (fun j st => (zz49_K3 N) (.exit j) st) N so1 list5 t9 t10)).trans (congrArg (fun k => zz49_l3 N k N so1 list5 t9 t10) h)
theorem run0_zz49 (N : Nat) (x : (S_zz49).a.den) : runF (A_zz49) N Try.f65 S_zz49 x = (zz49_s (zz49_R3 N N (zz49_K3 N)) x.1 x.2.1) := by kernel_rfl
theorem run_zz49 (N : Nat) (x : (S_zz49).a.den) : runF (A_zz49) N Try.f65 S_zz49 x = zz49 N x.1 x.2.1 := by
  refine (run0_zz49 N x).trans ?_
  rw [(funext fun so1 => (funext fun list5 => (funext fun t9 => (funext fun t10 => zz49_in3 N so1 list5 t9 t10))))]
  rfl
theorem fn_zz49 : FnOk Try.prog 65 := ⟨_, Try.func65, by kernel_rfl, by kernel_rfl⟩
theorem good_zz49 : Gx.Good Try.prog 65 S_zz49 := good_of_run Try.func65 (of_decide_eq_true (by kernel_rfl)) fun x r h => ⟨A_zz49, big, mkCfg_ok tabOk, mkCfg_sigs (show SigsOk Try.prog [(149, S_zz48)] from ⟨⟨fn_zz48, good_zz48⟩, trivial⟩), (run_zz49 big x).trans h⟩

/-! zz50 -/
def zz50_s (o_0 : Y5) (so_1 : (Y1 × Unit)) : Option (Bool × Unit) :=
  (zz49 big o_0 so_1).bind fun rq1 =>
  some (decide ((rq1.1.length : Int) = (0 : Int)), (()))
def zz50 (o_0 : Y5) (so_1 : (Y1 × Unit)) : Option (Bool × Unit) := zz50_s o_0 so_1
def S_zz50 : Sig := { a := (.pair (.sl (.sl .bool)) (.pair (.clo 149 0 (.pair (.ptr (.opt (.pair (.sl (.sl .bool)) (.pair (.sl (.sl I)) (.pair (.sl (.sl I)) .unit))))) .unit)) .unit)), md := [0, 0], mf := [], m := .unit, r := .bool, rf := .i, f := fun x => zz50 x.1 x.2.1 }
def A_zz50 : Cfg := mkCfg tab [(65, S_zz49)] []
theorem run_zz50 (N : Nat) (x : (S_zz50).a.den) : runF (A_zz50) N Try.f115 S_zz50 x = zz50 x.1 x.2.1 := by kernel_rfl
theorem fn_zz50 : FnOk Try.prog 115 := ⟨_, Try.func115, by kernel_rfl, by kernel_rfl⟩
theorem good_zz50 : Gx.Good Try.prog 115 S_zz50 := good_of_run Try.func115 (of_decide_eq_true (by kernel_rfl)) fun x r h => ⟨A_zz50, big, mkCfg_ok tabOk, mkCfg_sigs (show SigsOk Try.prog [(65, S_zz49)] from ⟨⟨fn_zz49, good_zz49⟩, trivial⟩), (run_zz50 big x).trans h⟩

/-! zz51 -/
def zz51_s (l_0 : Y1) : Option (Bool × Unit) :=
  (l_0).bind fun xq1 =>
  (zz50 xq1.1 (l_0, ())).bind fun rq2 =>
  some (rq2.1, (()))
def zz51 (l_0 : Y1) : Option (Bool × Unit) := zz51_s l_0
def S_zz51 : Sig := { a := (.pair (.opt (.pair (.sl (.sl .bool)) (.pair (.sl (.sl I)) (.pair (.sl (.sl I)) .unit)))) .unit), md := [0], mf := [], m := .unit, r := .bool, rf := .i, f := fun x => zz51 x.1 }
def A_zz51 : Cfg := mkCfg tab [(115, S_zz50)] [(3, [.drop, .as (.ptr (.opt (.pair (.sl (.sl .bool)) (.pair (.sl (.sl I)) (.pair (.sl (.sl I)) .unit))))) .i])]
theorem run_zz51 (N : Nat) (x : (S_zz51).a.den) : runF (A_zz51) N Try.f131 S_zz51 x = zz51 x.1 := by kernel_rfl
theorem fn_zz51 : FnOk Try.prog 131 := ⟨_, Try.func131, by kernel_rfl, by kernel_rfl⟩
theorem good_zz51 : Gx.Good Try.prog 131 S_zz51 := good_of_run Try.func131 (of_decide_eq_true (by kernel_rfl)) fun x r h => ⟨A_zz51, big, mkCfg_ok tabOk, mkCfg_sigs (show SigsOk Try.prog [(115, S_zz50)] from ⟨⟨fn_zz50, good_zz50⟩, trivial⟩), (run_zz51 big x).trans h⟩

/-! zz52 -/
def zz52_s (p_0 : Y2) : Option ((Y1 × (Bool × Unit)) × Unit) :=
  (zz41 p_0).bind fun rq1 =>
  cond rq1.1.2.1
  ((zz51 rq1.1.1).bind fun rq2 =>
  some ((rq1.1.1, rq2.1, ()), (())))
  (some ((rq1.1.1, false, ()), (())))
def zz52 (p_0 : Y2) : Option ((Y1 × (Bool × Unit)) × Unit) := zz52_s p_0
def S_zz52 : Sig := { a := (.pair (.pair (.sl (.sl I)) .unit) .unit), md := [0], mf := [], m := .unit, r := (.tup (.pair (.opt (.pair (.sl (.sl .bool)) (.pair (.sl (.sl I)) (.pair (.sl (.sl I)) .unit)))) (.pair .bool .unit))), rf := .i, f := fun x => zz52 x.1 }
def A_zz52 : Cfg := mkCfg tab [(130, S_zz41), (131, S_zz51)] []
theorem run_zz52 (N : Nat) (x : (S_zz52).a.den) : runF (A_zz52) N Try.f87 S_zz52 x = zz52 x.1 := by kernel_rfl
theorem fn_zz52 : FnOk Try.prog 87 := ⟨_, Try.func87, by kernel_rfl, by kernel_rfl⟩
theorem good_zz52 : Gx.Good Try.prog 87 S_zz52 := good_of_run Try.func87 (of_decide_eq_true (by kernel_rfl)) fun x r h => ⟨A_zz52, big, mkCfg_ok tabOk, mkCfg_sigs (show SigsOk Try.prog [(130, S_zz41), (131, S_zz51)] from ⟨⟨fn_zz41, good_zz41⟩, ⟨fn_zz51, good_zz51⟩, trivial⟩), (run_zz52 big x).trans h⟩

/-! zz53 -/
def zz53_s (p_0 : Y2) (q_1 : Y2) : Option ((Y1 × (Y1 × (Bool × Unit))) × Unit) :=
  (zz52 p_0).bind fun rq1 =>
  (zz52 q_1).bind fun rq2 =>
  cond rq1.1.2.1
  (some ((rq1.1.1, rq2.1.1, rq2.1.2.1, ()), (())))
  (some ((rq1.1.1, rq2.1.1, false, ()), (())))
def zz53 (p_0 : Y2) (q_1 : Y2) : Option ((Y1 × (Y1 × (Bool × Unit))) × Unit) := zz53_s p_0 q_1
def S_zz53 : Sig := { a := (.pair (.pair (.sl (.sl I)) .unit) (.pair (.pair (.sl (.sl I)) .unit) .unit)), md := [0, 0], mf := [], m := .unit, r := (.tup (.pair (.opt (.pair (.sl (.sl .bool)) (.pair (.sl (.sl I)) (.pair (.sl (.sl I)) .unit)))) (.pair (.opt (.pair (.sl (.sl .bool)) (.pair (.sl (.sl I)) (.pair (.sl (.sl I)) .unit)))) (.pair .bool .unit)))), rf := .i, f := fun x => zz53 x.1 x.2.1 }
def A_zz53 : Cfg := mkCfg tab [(87, S_zz52)] []
theorem run_zz53 (N : Nat) (x : (S_zz53).a.den) : runF (A_zz53) N Try.f100 S_zz53 x = zz53 x.1 x.2.1 := by kernel_rfl
theorem fn_zz53 : FnOk Try.prog 100 := ⟨_, Try.func100, by kernel_rfl, by kernel_rfl⟩
theorem good_zz53 : Gx.Good Try.prog 100 S_zz53 := good_of_run Try.func100 (of_decide_eq_true (by kernel_rfl)) fun x r h => ⟨A_zz53, big, mkCfg_ok tabOk, mkCfg_sigs (show SigsOk Try.prog [(87, S_zz52)] from ⟨⟨fn_zz52, good_zz52⟩, trivial⟩), (run_zz53 big x).trans h⟩

/-! zz54 -/
def zz54_s (o_0 : Y5) (x_1 : Int) (y_2 : Int) : Option (Bool × Unit) :=
  cond (decide (x_1 ≠ y_2))
  ((atI o_0 x_1).bind fun xq1 =>
  (atI xq1 y_2).bind fun xq2 =>
  some (xq2, (())))
  (some (false, (())))
def zz54 (o_0 : Y5) (x_1 : Int) (y_2 : Int) : Option (Bool × Unit) := zz54_s o_0 x_1 y_2
def S_zz54 : Sig := { a := (.pair (.sl (.sl .bool)) (.pair I (.pair I .unit))), md := [0, 0, 0], mf := [], m := .unit, r := .bool, rf := .i, f := fun x => zz54 x.1 x.2.1 x.2.2.1 }
def A_zz54 : Cfg := mkCfg tab [] []
theorem run_zz54 (N : Nat) (x : (S_zz54).a.den) : runF (A_zz54) N Try.f84 S_zz54 x = zz54 x.1 x.2.1 x.2.2.1 := by kernel_rfl
theorem fn_zz54 : FnOk Try.prog 84 := ⟨_, Try.func84, by kernel_rfl, by kernel_rfl⟩
theorem good_zz54 : Gx.Good Try.prog 84 S_zz54 := good_of_run Try.func84 (of_decide_eq_true (by kernel_rfl)) fun x r h => ⟨A_zz54, big, mkCfg_ok tabOk, mkCfg_sigs (show SigsOk Try.prog [] from trivial), (run_zz54 big x).trans h⟩

/-! zz55 -/
def zz55_b4 (rec : Y5 → Int → Int → Int → Int → Option (Bool × Unit)) (k : Option (Bool × Unit)) (o0 : Y5) (x1 : Int) (y2 : Int) (t14 : Int) (t15 : Int) : Option (Bool × Unit) :=
  cond (decide (t15 < t14))
  ((zz54 o0 x1 t15).bind fun rq2 =>
  cond rq2.1
  ((zz54 o0 t15 y2).bind fun rq3 =>
  cond rq3.1
  (some (false, (())))
  (rec o0 x1 y2 t14 (IntKind.i64.wrap (t15 + (1 : Int)))))
  (rec o0 x1 y2 t14 (IntKind.i64.wrap (t15 + (1 : Int)))))
  (k)
def zz55_a4 : Option (Bool × Unit) :=
  some (true, (()))
def zz55_s (L4 : Y5 → Int → Int → Int → Int → Option (Bool × Unit)) (o_0 : Y5) (x_1 : Int) (y_2 : Int) : Option (Bool × Unit) :=
  (zz54 o_0 x_1 y_2).bind fun rq1 =>
  cond (!rq1.1)
  (some (false, (())))
  (L4 o_0 x_1 y_2 (o_0.length : Int) (0 : Int))
def zz55_l4 (N : Nat) (k : Option (Bool × Unit)) : Nat → Y5 → Int → Int → Int → Int → Option (Bool × Unit)
  | 0, _, _, _, _, _ => none
  | m + 1, o0, x1, y2, t14, t15 => zz55_b4 (zz55_l4 N k m) k o0 x1 y2 t14 t15
def zz55_F4 (N : Nat) (o0 : Y5) (x1 : Int) (y2 : Int) (t14 : Int) (t15 : Int) : Option (Bool × Unit) := zz55_l4 N (zz55_a4) N o0 x1 y2 t14 t15
def zz55 (N : Nat) (o_0 : Y5) (x_1 : Int) (y_2 : Int) : Option (Bool × Unit) := zz55_s (zz55_F4 N) o_0 x_1 y_2
def S_zz55 : Sig := { a := (.pair (.sl (.sl .bool)) (.pair I (.pair I .unit))), md := [0, 0, 0], mf := [], m := .unit, r := .bool, rf := .i, f := fun x => zz55 big x.1 x.2.1 x.2.2.1 }
def A_zz55 : Cfg := mkCfg tab [(84, S_zz54)] [(8, [.as (.sl (.sl .bool)) .i, .as I .i, .as I .i, .drop, .drop, .drop, .drop, .drop, .drop, .drop, .drop, .drop, .drop, .drop, .as I .i, .as I .i]), (19, [])]
noncomputable def zz55_R4 (N n : Nat) (K : Ex → St → Option (Bool × Unit)) (o0 : Y5) (x1 : Int) (y2 : Int) (t14 : Int) (t15 : Int) : Option (Bool × Unit) := iter ((A_zz55).shape 8) (run (A_zz55) N (codeAt Try.f124 [1, 1, 0, 1, 0, 0])) n ([.val (.sl (.sl .bool)) .i o0, .val I .i x1, .val I .i y2, .u, .u, .u, .u, .u, .u, .u, .u, .u, .u, .u, .val I .i t14, .val I .i t15] ++ List.replicate 13 .u) K
noncomputable abbrev zz55_z : Ex → St → Option (Bool × Unit) := finish (A_zz55) S_zz55 Try.f124.results.toList
noncomputable abbrev zz55_X4 (kX : St → Option (Bool × Unit)) : Option (Bool × Unit) := kX ([] ++ List.replicate 29 .u)
noncomputable abbrev zz55_E4 (kX : St → Option (Bool × Unit)) (kO : Nat → St → Option (Bool × Unit)) : Ex → St → Option (Bool × Unit) := exK zz55_z 0 ((A_zz55).shape 19) kX kO
theorem zz55_step4 (N : Nat) (m : Nat) (kX : St → Option (Bool × Unit)) (kO : Nat → St → Option (Bool × Unit)) (o0 : Y5) (x1 : Int) (y2 : Int) (t14 : Int) (t15 : Int) : zz55_R4 N (m + 1) (zz55_E4 kX kO) o0 x1 y2 t14 t15 = zz55_b4 (zz55_R4 N m (zz55_E4 kX kO)) (zz55_X4 kX) o0 x1 y2 t14 t15 := by kernel_rfl
theorem zz55_iter4 (N : Nat) (kX : St → Option (Bool × Unit)) (kO : Nat → St → Option (Bool × Unit)) : ∀ (n : Nat) (o0 : Y5) (x1 : Int) (y2 : Int) (t14 : Int) (t15 : Int), zz55_R4 N n (zz55_E4 kX kO) o0 x1 y2 t14 t15 = zz55_l4 N (zz55_X4 kX) n o0 x1 y2 t14 t15
  | 0, _, _, _, _, _ => rfl
  | m + 1, o0, x1, y2, t14, t15 => by
    have hrec : zz55_R4 N m (zz55_E4 kX kO) = (zz55_l4 N (zz55_X4 kX) m) := (funext fun o0 => (funext fun x1 => (funext fun y2 => (funext fun t14 => (funext fun t15 => zz55_iter4 N kX kO m o0 x1 y2 t14 t15)))))
    refine (zz55_step4 N m kX kO o0 x1 y2 t14 t15).trans ?_
    rw [hrec]
    rfl
noncomputable abbrev zz55_K4 (N : Nat) : Ex → St → Option (Bool × Unit) := (blockK 0 (seqK ((A_zz55).shape 19) (run (A_zz55) N (codeAt Try.f124 [1, 1, 1])) zz55_z))
noncomputable abbrev zz55_k4 (N : Nat) : St → Option (Bool × Unit) := fun st' => run (A_zz55) N (codeAt Try.f124 [1, 1, 1]) st' zz55_z
theorem zz55_after4 (N : Nat) : zz55_X4 (zz55_k4 N) = zz55_a4 := by kernel_rfl
theorem zz55_in4 (N : Nat) (o0 : Y5) (x1 : Int) (y2 : Int) (t14 : Int) (t15 : Int) : zz55_R4 N N (zz55_K4 N) o0 x1 y2 t14 t15 = zz55_F4 N o0 x1 y2 t14 t15 :=
  have h : zz55_X4 (zz55_k4 N) = (zz55_a4) := zz55_after4 N
  ((iter_ex (fun st => by kernel_rfl) (fun st => by kernel_rfl)).trans (zz55_iter4 N (zz55_k4 N) (fun j st => (zz55_K4 N) (.exit j) st) N o0 x1 y2 t14 t15)).trans (congrArg (fun k => zz55_l4 N k N o0 x1 y2 t14 t15) h)
theorem run0_zz55 (N : Nat) (x : (S_zz55).a.den) : runF (A_zz55) N Try.f124 S_zz55 x = (zz55_s (zz55_R4 N N (zz55_K4 N)) x.1 x.2.1 x.2.2.1) := by kernel_rfl
theorem run_zz55 (N : Nat) (x : (S_zz55).a.den) : runF (A_zz55) N Try.f124 S_zz55 x = zz55 N x.1 x.2.1 x.2.2.1 := by
  refine (run0_zz55 N x).trans ?_
  rw [(funext fun o0 => (funext fun x1 => (funext fun y2 => (funext fun t14 => (funext fun t15 => zz55_in4 N o0 x1 y2 t14 t15)))))]
  rfl
theorem fn_zz55 : FnOk Try.prog 124 := ⟨_, Try.func124, by kernel_rfl, by kernel_rfl⟩
theorem good_zz55 : Gx.Good Try.prog 124 S_zz55 := good_of_run Try.func124 (of_decide_eq_true (by kernel_rfl)) fun x r h => ⟨A_zz55, big, mkCfg_ok tabOk, mkCfg_sigs (show SigsOk Try.prog [(84, S_zz54)] from ⟨⟨fn_zz54, good_zz54⟩, trivial⟩), (run_zz55 big x).trans h⟩

/-! zz56 -/
def zz56_s (y_0 : Int) (p_1 : Y5) (p_2 : Int) : Option (Bool × Unit) :=
  (zz55 big p_1 p_2 y_0).bind fun rq1 =>
  some (rq1.1, (()))
def zz56 (y_0 : Int) (p_1 : Y5) (p_2 : Int) : Option (Bool × Unit) := zz56_s y_0 p_1 p_2
def S_zz56 : Sig := { a := (.pair I (.pair (.ptr (.sl (.sl .bool))) (.pair (.ptr I) .unit))), md := [0, 0, 0], mf := [], m := .unit, r := .bool, rf := .i, f := fun x => zz56 x.1 x.2.1 x.2.2.1 }
def A_zz56 : Cfg := mkCfg tab [(124, S_zz55)] []
theorem run_zz56 (N : Nat) (x : (S_zz56).a.den) : runF (A_zz56) N Try.f145 S_zz56 x = zz56 x.1 x.2.1 x.2.2.1 := by kernel_rfl
theorem fn_zz56 : FnOk Try.prog 145 := ⟨_, Try.func145, by kernel_rfl, by kernel_rfl⟩
theorem good_zz56 : Gx.Good Try.prog 145 S_zz56 := good_of_run Try.func145 (of_decide_eq_true (by kernel_rfl)) fun x r h => ⟨A_zz56, big, mkCfg_ok tabOk, mkCfg_sigs (show SigsOk Try.prog [(124, S_zz55)] from ⟨⟨fn_zz55, good_zz55⟩, trivial⟩), (run_zz56 big x).trans h⟩

/-! zz57 -/
def zz57_b3 (rec : (Y5 × (Int × Unit)) → Y4 → Int → Int → Option (Y4 × Unit)) (k : Y4 → Option (Y4 × Unit)) (so1 : (Y5 × (Int × Unit))) (list5 : Y4) (t9 : Int) (t10 : Int) : Option (Y4 × Unit) :=
  cond (decide (t10 < t9))
  ((zz56 t10 so1.1 so1.2.1).bind fun rq1 =>
  cond rq1.1
  ((appI list5 [t10]).bind fun xq2 =>
  rec so1 xq2 t9 (IntKind.i64.wrap (t10 + (1 : Int))))
  (rec so1 list5 t9 (IntKind.i64.wrap (t10 + (1 : Int)))))
  (k list5)
def zz57_a3 (list5 : Y4) : Option (Y4 × Unit) :=
  some (list5, (()))
def zz57_s (L3 : (Y5 × (Int × Unit)) → Y4 → Int → Int → Option (Y4 × Unit)) (o_0 : Y5) (so_1 : (Y5 × (Int × Unit))) : Option (Y4 × Unit) :=
  L3 so_1 [] (o_0.length : Int) (0 : Int)
def zz57_l3 (N : Nat) (k : Y4 → Option (Y4 × Unit)) : Nat → (Y5 × (Int × Unit)) → Y4 → Int → Int → Option (Y4 × Unit)
  | 0, _, _, _, _ => none
  | m + 1, so1, list5, t9, t10 => zz57_b3 (zz57_l3 N k m) k so1 list5 t9 t10
def zz57_F3 (N : Nat) (so1 : (Y5 × (Int × Unit))) (list5 : Y4) (t9 : Int) (t10 : Int) : Option (Y4 × Unit) := zz57_l3 N (zz57_a3) N so1 list5 t9 t10
def zz57 (N : Nat) (o_0 : Y5) (so_1 : (Y5 × (Int × Unit))) : Option (Y4 × Unit) := zz57_s (zz57_F3 N) o_0 so_1
def S_zz57 : Sig := { a := (.pair (.sl (.sl .bool)) (.pair (.clo 145 0 (.pair (.ptr (.sl (.sl .bool))) (.pair (.ptr I) .unit))) .unit)), md := [0, 0], mf := [], m := .unit, r := (.sl I), rf := (.o .i), f := fun x => zz57 big x.1 x.2.1 }
def A_zz57 : Cfg := mkCfg tab [(145, S_zz56)] [(6, [.drop, .as (.clo 145 0 (.pair (.ptr (.sl (.sl .bool))) (.pair (.ptr I) .unit))) .i, .drop, .drop, .drop, .as (.sl I) (.o .i), .drop, .drop, .drop, .as I .i, .as I .i]), (17, [.drop, .drop, .drop, .drop, .drop, .as (.sl I) (.o .i)])]
noncomputable def zz57_R3 (N n : Nat) (K : Ex → St → Option (Y4 × Unit)) (so1 : (Y5 × (Int × Unit))) (list5 : Y4) (t9 : Int) (t10 : Int) : Option (Y4 × Unit) := iter ((A_zz57).shape 6) (run (A_zz57) N (codeAt Try.f65 [1, 1, 0, 1, 0, 0])) n ([.u, .val (.clo 145 0 (.pair (.ptr (.sl (.sl .bool))) (.pair (.ptr I) .unit))) .i so1, .u, .u, .u, .val (.sl I) (.o .i) list5, .u, .u, .u, .val I .i t9, .val I .i t10] ++ List.replicate 11 .u) K
noncomputable abbrev zz57_z : Ex → St → Option (Y4 × Unit) := finish (A_zz57) S_zz57 Try.f65.results.toList
noncomputable abbrev zz57_X3 (kX : St → Option (Y4 × Unit)) : Y4 → Option (Y4 × Unit) := fun (list5 : Y4) => kX ([.u, .u, .u, .u, .u, .val (.sl I) (.o .i) list5] ++ List.replicate 16 .u)
noncomputable abbrev zz57_E3 (kX : St → Option (Y4 × Unit)) (kO : Nat → St → Option (Y4 × Unit)) : Ex → St → Option (Y4 × Unit) := exK zz57_z 0 ((A_zz57).shape 17) kX kO
theorem zz57_step3 (N : Nat) (m : Nat) (kX : St → Option (Y4 × Unit)) (kO : Nat → St → Option (Y4 × Unit)) (so1 : (Y5 × (Int × Unit))) (list5 : Y4) (t9 : Int) (t10 : Int) : zz57_R3 N (m + 1) (zz57_E3 kX kO) so1 list5 t9 t10 = zz57_b3 (zz57_R3 N m (zz57_E3 kX kO)) (zz57_X3 kX) so1 list5 t9 t10 := by kernel_rfl
theorem zz57_iter3 (N : Nat) (kX : St → Option (Y4 × Unit)) (kO : Nat → St → Option (Y4 × Unit)) : ∀ (n : Nat) (so1 : (Y5 × (Int × Unit))) (list5 : Y4) (t9 : Int) (t10 : Int), zz57_R3 N n (zz57_E3 kX kO) so1 list5 t9 t10 = zz57_l3 N (zz57_X3 kX) n so1 list5 t9 t10
  | 0, _, _, _, _ => rfl
  | m + 1, so1, list5, t9, t10 => by
    have hrec : zz57_R3 N m (zz57_E3 kX kO) = (zz57_l3 N (zz57_X3 kX) m) := (funext fun so1 => (funext fun list5 => (funext fun t9 => (funext fun t10 => zz57_iter3 N kX kO m so1 list5 t9 t10))))
    refine (zz57_step3 N m kX kO so1 list5 t9 t10).trans ?_
    rw [hrec]
    rfl
noncomputable abbrev zz57_K3 (N : Nat) : Ex → St → Option (Y4 × Unit) := (blockK 0 (seqK ((A_zz57).shape 17) (run (A_zz57) N (codeAt Try.f65 [1, 1, 1])) zz57_z))
noncomputable abbrev zz57_k3 (N : Nat) : St → Option (Y4 × Unit) := fun st' => run (A_zz57) N (codeAt Try.f65 [1, 1, 1]) st' zz57_z
theorem zz57_after3 (N : Nat) (list5 : Y4) : zz57_X3 (zz57_k3 N) list5 = zz57_a3 list5 := by kernel_rfl
theorem zz57_in3 (N : Nat) (so1 : (Y5 × (Int × Unit))) (list5 : Y4) (t9 : Int) (t10 : Int) : zz57_R3 N N (zz57_K3 N) so1 list5 t9 t10 = zz57_F3 N so1 list5 t9 t10 :=
  have h : zz57_X3 (zz57_k3 N) = (zz57_a3) := (funext fun list5 => zz57_after3 N list5)
  ((iter_ex (fun st => by kernel_rfl) (fun st => by kernel_rfl)).trans (zz57_iter3 N (zz57_k3 N) (fun j st => (zz57_K3 N) (.exit j) st) N so1 list5 t9 t10)).trans (congrArg (fun k => zz57_l3 N k N so1 list5 t9 t10) h)
theorem run0_zz57 (N : Nat) (x : (S_zz57).a.den) : runF (A_zz57) N Try.f65 S_zz57 x = (zz57_s (zz57_R3 N N (zz57_K3 N)) x.1 x.2.1) := by kernel_rfl
theorem run_zz57 (N : Nat) (x : (S_zz57).a.den) : runF (A_zz57) N Try.f65 S_zz57 x = zz57 N x.1 x.2.1 := by
  refine (run0_zz57 N x).trans ?_
  rw [(funext fun so1 => (funext fun list5 => (funext fun t9 => (funext fun t10 => zz57_in3 N so1 list5 t9 t10))))]
  rfl
theorem fn_zz57 : FnOk Try.prog 65 := ⟨_, Try.func65, by kernel_rfl, by kernel_rfl⟩
theorem good_zz57 : Gx.Good Try.prog 65 S_zz57 := good_of_run Try.func65 (of_decide_eq_true (by kernel_rfl)) fun x r h => ⟨A_zz57, big, mkCfg_ok tabOk, mkCfg_sigs (show SigsOk Try.prog [(145, S_zz56)] from ⟨⟨fn_zz56, good_zz56⟩, trivial⟩), (run_zz57 big x).trans h⟩

/-! zz58 -/
def zz58_s (o_0 : Y5) (x_1 : Int) : Option (Y4 × Unit) :=
  (zz57 big o_0 (o_0, x_1, ())).bind fun rq1 =>
  some (rq1.1, (()))
def zz58 (o_0 : Y5) (x_1 : Int) : Option (Y4 × Unit) := zz58_s o_0 x_1
def S_zz58 : Sig := { a := (.pair (.sl (.sl .bool)) (.pair I .unit)), md := [0, 0], mf := [], m := .unit, r := (.sl I), rf := (.o .i), f := fun x => zz58 x.1 x.2.1 }
def A_zz58 : Cfg := mkCfg tab [(65, S_zz57)] [(3, [.drop, .drop, .as (.ptr (.sl (.sl .bool))) .i, .as (.ptr I) .i])]
theorem run_zz58 (N : Nat) (x : (S_zz58).a.den) : runF (A_zz58) N Try.f123 S_zz58 x = zz58 x.1 x.2.1 := by kernel_rfl
theorem fn_zz58 : FnOk Try.prog 123 := ⟨_, Try.func123, by kernel_rfl, by kernel_rfl⟩
theorem good_zz58 : Gx.Good Try.prog 123 S_zz58 := good_of_run Try.func123 (of_decide_eq_true (by kernel_rfl)) fun x r h => ⟨A_zz58, big, mkCfg_ok tabOk, mkCfg_sigs (show SigsOk Try.prog [(65, S_zz57)] from ⟨⟨fn_zz57, good_zz57⟩, trivial⟩), (run_zz58 big x).trans h⟩

/-! zz59 -/
def zz59_s (l_0 : Y1) : Option (Y4 × Unit) :=
  (l_0).bind fun xq1 =>
  (zz42 big l_0).bind fun rq2 =>
  (zz58 xq1.1 rq2.1).bind fun rq3 =>
  some (rq3.1, (()))
def zz59 (l_0 : Y1) : Option (Y4 × Unit) := zz59_s l_0
def S_zz59 : Sig := { a := (.pair (.opt (.pair (.sl (.sl .bool)) (.pair (.sl (.sl I)) (.pair (.sl (.sl I)) .unit)))) .unit), md := [0], mf := [], m := .unit, r := (.sl I), rf := (.o .i), f := fun x => zz59 x.1 }
def A_zz59 : Cfg := mkCfg tab [(70, S_zz42), (123, S_zz58)] []
theorem run_zz59 (N : Nat) (x : (S_zz59).a.den) : runF (A_zz59) N Try.f98 S_zz59 x = zz59 x.1 := by kernel_rfl
theorem fn_zz59 : FnOk Try.prog 98 := ⟨_, Try.func98, by kernel_rfl, by kernel_rfl⟩
theorem good_zz59 : Gx.Good Try.prog 98 S_zz59 := good_of_run Try.func98 (of_decide_eq_true (by kernel_rfl)) fun x r h => ⟨A_zz59, big, mkCfg_ok tabOk, mkCfg_sigs (show SigsOk Try.prog [(70, S_zz42), (123, S_zz58)] from ⟨⟨fn_zz42, good_zz42⟩, ⟨fn_zz58, good_zz58⟩, trivial⟩), (run_zz59 big x).trans h⟩

/-! zz60 -/
def zz60_b3 (rec : Y1 → Int → Y4 → Int → Int → Option (Int × Unit)) (k : Int → Option (Int × Unit)) (l0 : Y1) (j5 : Int) (t10 : Y4) (t11 : Int) (t12 : Int) : Option (Int × Unit) :=
  cond (decide (t12 < t11))
  ((atI t10 t12).bind fun xq2 =>
  (l0).bind fun xq3 =>
  (atI xq3.2.2.1 j5).bind fun xq4 =>
  (atI xq4 xq2).bind fun xq5 =>
  rec l0 xq5 t10 t11 (IntKind.i64.wrap (t12 + (1 : Int))))
  (k j5)
def zz60_a3 (j5 : Int) : Option (Int × Unit) :=
  some (j5, (()))
def zz60_s (L3 : Y1 → Int → Y4 → Int → Int → Option (Int × Unit)) (l_0 : Y1) (list_1 : Y4) : Option (Int × Unit) :=
  (zz42 big l_0).bind fun rq1 =>
  L3 l_0 rq1.1 list_1 (list_1.length : Int) (0 : Int)
def zz60_l3 (N : Nat) (k : Int → Option (Int × Unit)) : Nat → Y1 → Int → Y4 → Int → Int → Option (Int × Unit)
  | 0, _, _, _, _, _ => none
  | m + 1, l0, j5, t10, t11, t12 => zz60_b3 (zz60_l3 N k m) k l0 j5 t10 t11 t12
def zz60_F3 (N : Nat) (l0 : Y1) (j5 : Int) (t10 : Y4) (t11 : Int) (t12 : Int) : Option (Int × Unit) := zz60_l3 N (zz60_a3) N l0 j5 t10 t11 t12
def zz60 (N : Nat) (l_0 : Y1) (list_1 : Y4) : Option (Int × Unit) := zz60_s (zz60_F3 N) l_0 list_1
def S_zz60 : Sig := { a := (.pair (.opt (.pair (.sl (.sl .bool)) (.pair (.sl (.sl I)) (.pair (.sl (.sl I)) .unit)))) (.pair (.sl I) .unit)), md := [0, 0], mf := [], m := .unit, r := I, rf := .i, f := fun x => zz60 big x.1 x.2.1 }
def A_zz60 : Cfg := mkCfg tab [(70, S_zz42)] [(6, [.as (.opt (.pair (.sl (.sl .bool)) (.pair (.sl (.sl I)) (.pair (.sl (.sl I)) .unit)))) .i, .drop, .drop, .drop, .drop, .as I .i, .drop, .drop, .drop, .drop, .as (.sl I) .i, .as I .i, .as I .i]), (15, [.drop, .drop, .drop, .drop, .drop, .as I .i])]
noncomputable def zz60_R3 (N n : Nat) (K : Ex → St → Option (Int × Unit)) (l0 : Y1) (j5 : Int) (t10 : Y4) (t11 : Int) (t12 : Int) : Option (Int × Unit) := iter ((A_zz60).shape 6) (run (A_zz60) N (codeAt Try.f102 [1, 1, 0, 1, 0, 0])) n ([.val (.opt (.pair (.sl (.sl .bool)) (.pair (.sl (.sl I)) (.pair (.sl (.sl I)) .unit)))) .i l0, .u, .u, .u, .u, .val I .i j5, .u, .u, .u, .u, .val (.sl I) .i t10, .val I .i t11, .val I .i t12] ++ List.replicate 15 .u) K
noncomputable abbrev zz60_z : Ex → St → Option (Int × Unit) := finish (A_zz60) S_zz60 Try.f102.results.toList
noncomputable abbrev zz60_X3 (kX : St → Option (Int × Unit)) : Int → Option (Int × Unit) := fun (j5 : Int) => kX ([.u, .u, .u, .u, .u, .val I .i j5] ++ List.replicate 22 .u)
noncomputable abbrev zz60_E3 (kX : St → Option (Int × Unit)) (kO : Nat → St → Option (Int × Unit)) : Ex → St → Option (Int × Unit) := exK zz60_z 0 ((A_zz60).shape 15) kX kO
theorem zz60_step3 (N : Nat) (m : Nat) (kX : St → Option (Int × Unit)) (kO : Nat → St → Option (Int × Unit)) (l0 : Y1) (j5 : Int) (t10 : Y4) (t11 : Int) (t12 : Int) : zz60_R3 N (m + 1) (zz60_E3 kX kO) l0 j5 t10 t11 t12 = zz60_b3 (zz60_R3 N m (zz60_E3 kX kO)) (zz60_X3 kX) l0 j5 t10 t11 t12 := by kernel_rfl
theorem zz60_iter3 (N : Nat) (kX : St → Option (Int × Unit)) (kO : Nat → St → Option (Int × Unit)) : ∀ (n : Nat) (l0 : Y1) (j5 : Int) (t10 : Y4) (t11 : Int) (t12 : Int), zz60_R3 N n (zz60_E3 kX kO) l0 j5 t10 t11 t12 = zz60_l3 N (zz60_X3 kX) n l0 j5 t10 t11 t12
  | 0, _, _, _, _, _ => rfl
  | m + 1, l0, j5, t10, t11, t12 => by
    have hrec : zz60_R3 N m (zz60_E3 kX kO) = (zz60_l3 N (zz60_X3 kX) m) := (funext fun l0 => (funext fun j5 => (funext fun t10 => (funext fun t11 => (funext fun t12 => zz60_iter3 N kX kO m l0 j5 t10 t11 t12)))))
    refine (zz60_step3 N m kX kO l0 j5 t10 t11 t12).trans ?_
    rw [hrec]
    rfl
noncomputable abbrev zz60_K3 (N : Nat) : Ex → St → Option (Int × Unit) := (blockK 0 (seqK ((A_zz60).shape 15) (run (A_zz60) N (codeAt Try.f102 [1, 1, 1])) zz60_z))
noncomputable abbrev zz60_k3 (N : Nat) : St → Option (Int × Unit) := fun st' => run (A_zz60) N (codeAt Try.f102 [1, 1, 1]) st' zz60_z
theorem zz60_after3 (N : Nat) (j5 : Int) : zz60_X3 (zz60_k3 N) j5 = zz60_a3 j5 := by kernel_rfl
theorem zz60_in3 (N : Nat) (l0 : Y1) (j5 : Int) (t10 : Y4) (t11 : Int) (t12 : Int) : zz60_R3 N N (zz60_K3 N) l0 j5 t10 t11 t12 = zz60_F3 N l0 j5 t10 t11 t12 :=
  have h : zz60_X3 (zz60_k3 N) = (zz60_a3) := (funext fun j5 => zz60_after3 N j5)
  ((iter_ex (fun st => by kernel_rfl) (fun st => by kernel_rfl)).trans (zz60_iter3 N (zz60_k3 N) (fun j st => (zz60_K3 N) (.exit j) st) N l0 j5 t10 t11 t12)).trans (congrArg (fun k => zz60_l3 N k N l0 j5 t10 t11 t12) h)
theorem run0_zz60 (N : Nat) (x : (S_zz60).a.den) : runF (A_zz60) N Try.f102 S_zz60 x = (zz60_s (zz60_R3 N N (zz60_K3 N)) x.1 x.2.1) := by kernel_rfl
theorem run_zz60 (N : Nat) (x : (S_zz60).a.den) : runF (A_zz60) N Try.f102 S_zz60 x = zz60 N x.1 x.2.1 := by
  refine (run0_zz60 N x).trans ?_
  rw [(funext fun l0 => (funext fun j5 => (funext fun t10 => (funext fun t11 => (funext fun t12 => zz60_in3 N l0 j5 t10 t11 t12)))))]
  rfl
theorem fn_zz60 : FnOk Try.prog 102 := ⟨_, Try.func102, by kernel_rfl, by kernel_rfl⟩
theorem good_zz60 : Gx.Good Try.prog 102 S_zz60 := good_of_run Try.func102 (of_decide_eq_true (by kernel_rfl)) fun x r h => ⟨A_zz60, big, mkCfg_ok tabOk, mkCfg_sigs (show SigsOk Try.prog [(70, S_zz42)] from ⟨⟨fn_zz42, good_zz42⟩, trivial⟩), (run_zz60 big x).trans h⟩

/-! zz61 -/
def zz61_b11 (rec : Y4 → Y1 → Y1 → Y4 → Y4 → Y4 → Int → Y4 → Int → Int → Int → Int → Option ((Y4 × (Bool × Unit)) × Unit)) (k : Y4 → Y1 → Y1 → Y4 → Y4 → Y4 → Y4 → Int → Int → Option ((Y4 × (Bool × Unit)) × Unit)) (g2 : Y4) (l8 : Y1) (m9 : Y1) (from11 : Y4) (to12 : Y4) (list13 : Y4) (x14 : Int) (some15 : Y4) (t53 : Int) (t54 : Int) (t59 : Int) (t60 : Int) : Option ((Y4 × (Bool × Unit)) × Unit) :=
  cond (decide (t60 < t59))
  ((atI to12 t60).bind fun _ =>
  (to12[t60.toNat]?).bind fun xq8 =>
  (l8).bind fun xq9 =>
  (atI g2 t60).bind fun xq10 =>
  (atI from11 xq10).bind fun _ =>
  (from11[xq10.toNat]?).bind fun xq11 =>
  (atI xq9.1 xq11).bind fun xq12 =>
  (atI xq12 x14).bind fun xq13 =>
  cond xq13
  ((appI some15 [xq8]).bind fun xq14 =>
  rec g2 l8 m9 from11 to12 list13 x14 xq14 t53 t54 t59 (IntKind.i64.wrap (t60 + (1 : Int))))
  (rec g2 l8 m9 from11 to12 list13 x14 some15 t53 t54 t59 (IntKind.i64.wrap (t60 + (1 : Int)))))
  (k g2 l8 m9 from11 to12 list13 some15 t53 t54)
def zz61_a11 (rec : Y4 → Y1 → Y1 → Y4 → Y4 → Y4 → Int → Int → Option ((Y4 × (Bool × Unit)) × Unit)) (g2 : Y4) (l8 : Y1) (m9 : Y1) (from11 : Y4) (to12 : Y4) (list13 : Y4) (some15 : Y4) (t53 : Int) (t54 : Int) : Option ((Y4 × (Bool × Unit)) × Unit) :=
  (zz60 big m9 some15).bind fun rq15 =>
  (appI list13 [rq15.1]).bind fun xq16 =>
  rec g2 l8 m9 from11 to12 xq16 t53 (IntKind.i64.wrap (t54 + (1 : Int)))
def zz61_b7 (L11 : Y4 → Y1 → Y1 → Y4 → Y4 → Y4 → Int → Y4 → Int → Int → Int → Int → Option ((Y4 × (Bool × Unit)) × Unit)) (k : Y4 → Option ((Y4 × (Bool × Unit)) × Unit)) (g2 : Y4) (l8 : Y1) (m9 : Y1) (from11 : Y4) (to12 : Y4) (list13 : Y4) (t53 : Int) (t54 : Int) : Option ((Y4 × (Bool × Unit)) × Unit) :=
  cond (decide (t54 < t53))
  (L11 g2 l8 m9 from11 to12 list13 t54 [] t53 t54 (to12.length : Int) (0 : Int))
  (k list13)
def zz61_a7 (list13 : Y4) : Option ((Y4 × (Bool × Unit)) × Unit) :=
  some ((list13, true, ()), (()))
def zz61_s (L7 : Y4 → Y1 → Y1 → Y4 → Y4 → Y4 → Int → Int → Option ((Y4 × (Bool × Unit)) × Unit)) (p_0 : Y2) (q_1 : Y2) (g_2 : Y4) : Option ((Y4 × (Bool × Unit)) × Unit) :=
  (zz53 p_0 q_1).bind fun rq1 =>
  cond (!rq1.1.2.2.1)
  (some (([], false, ()), (())))
  ((zz59 rq1.1.2.1).bind fun rq2 =>
  cond (decide ((g_2.length : Int) ≠ (rq2.1.length : Int)))
  (some (([], false, ()), (())))
  ((zz59 rq1.1.1).bind fun rq3 =>
  (zz31 big g_2 (rq3.1.length : Int)).bind fun rq4 =>
  cond (!rq4.1)
  (some (([], false, ()), (())))
  ((zz59 rq1.1.1).bind fun rq5 =>
  (zz59 rq1.1.2.1).bind fun rq6 =>
  (rq1.1.1).bind fun xq7 =>
  L7 g_2 rq1.1.1 rq1.1.2.1 rq5.1 rq6.1 [] (xq7.1.length : Int) (0 : Int))))
def zz61_l11 (N : Nat) (k : Y4 → Y1 → Y1 → Y4 → Y4 → Y4 → Y4 → Int → Int → Option ((Y4 × (Bool × Unit)) × Unit)) : Nat → Y4 → Y1 → Y1 → Y4 → Y4 → Y4 → Int → Y4 → Int → Int → Int → Int → Option ((Y4 × (Bool × Unit)) × Unit)
  | 0, _, _, _, _, _, _, _, _, _, _, _, _ => none
  | m + 1, g2, l8, m9, from11, to12, list13, x14, some15, t53, t54, t59, t60 => zz61_b11 (zz61_l11 N k m) k g2 l8 m9 from11 to12 list13 x14 some15 t53 t54 t59 t60
def zz61_F11 (N : Nat) (rec : Y4 → Y1 → Y1 → Y4 → Y4 → Y4 → Int → Int → Option ((Y4 × (Bool × Unit)) × Unit)) (k : Y4 → Option ((Y4 × (Bool × Unit)) × Unit)) (g2 : Y4) (l8 : Y1) (m9 : Y1) (from11 : Y4) (to12 : Y4) (list13 : Y4) (x14 : Int) (some15 : Y4) (t53 : Int) (t54 : Int) (t59 : Int) (t60 : Int) : Option ((Y4 × (Bool × Unit)) × Unit) := zz61_l11 N (zz61_a11 rec) N g2 l8 m9 from11 to12 list13 x14 some15 t53 t54 t59 t60
def zz61_l7 (N : Nat) (k : Y4 → Option ((Y4 × (Bool × Unit)) × Unit)) : Nat → Y4 → Y1 → Y1 → Y4 → Y4 → Y4 → Int → Int → Option ((Y4 × (Bool × Unit)) × Unit)
  | 0, _, _, _, _, _, _, _, _ => none
  | m + 1, g2, l8, m9, from11, to12, list13, t53, t54 => zz61_b7 (zz61_F11 N (zz61_l7 N k m) k) k g2 l8 m9 from11 to12 list13 t53 t54
def zz61_F7 (N : Nat) (g2 : Y4) (l8 : Y1) (m9 : Y1) (from11 : Y4) (to12 : Y4) (list13 : Y4) (t53 : Int) (t54 : Int) : Option ((Y4 × (Bool × Unit)) × Unit) := zz61_l7 N (zz61_a7) N g2 l8 m9 from11 to12 list13 t53 t54
def zz61 (N : Nat) (p_0 : Y2) (q_1 : Y2) (g_2 : Y4) : Option ((Y4 × (Bool × Unit)) × Unit) := zz61_s (zz61_F7 N) p_0 q_1 g_2
def S_zz61 : Sig := { a := (.pair (.pair (.sl (.sl I)) .unit) (.pair (.pair (.sl (.sl I)) .unit) (.pair (.sl I) .unit))), md := [0, 0, 0], mf := [], m := .unit, r := (.tup (.pair (.sl I) (.pair .bool .unit))), rf := (.p (.o .i) .i), f := fun x => zz61 big x.1 x.2.1 x.2.2.1 }
def A_zz61 : Cfg := mkCfg tab [(100, S_zz53), (98, S_zz59), (101, S_zz31), (102, S_zz60)] [(14, [.drop, .drop, .as (.sl I) .i, .drop, .drop, .drop, .drop, .drop, .as (.opt (.pair (.sl (.sl .bool)) (.pair (.sl (.sl I)) (.pair (.sl (.sl I)) .unit)))) .i, .as (.opt (.pair (.sl (.sl .bool)) (.pair (.sl (.sl I)) (.pair (.sl (.sl I)) .unit)))) .i, .drop, .as (.sl I) (.o .i), .as (.sl I) (.o .i), .as (.sl I) (.o .i), .drop, .drop, .drop, .drop, .drop, .drop, .drop, .drop, .drop, .drop, .drop, .drop, .drop, .drop, .drop, .drop, .drop, .drop, .drop, .drop, .drop, .drop, .drop, .drop, .drop, .drop, .drop, .drop, .drop, .drop, .drop, .drop, .drop, .drop, .drop, .drop, .drop, .drop, .drop, .as I .i, .as I .i]), (22, [.drop, .drop, .as (.sl I) .i, .drop, .drop, .drop, .drop, .drop, .as (.opt (.pair (.sl (.sl .bool)) (.pair (.sl (.sl I)) (.pair (.sl (.sl I)) .unit)))) .i, .as (.opt (.pair (.sl (.sl .bool)) (.pair (.sl (.sl I)) (.pair (.sl (.sl I)) .unit)))) .i, .drop, .as (.sl I) (.o .i), .as (.sl I) (.o .i), .as (.sl I) (.o .i), .as I .i, .as (.sl I) (.o .i), .drop, .drop, .drop, .drop, .drop, .drop, .drop, .drop, .drop, .drop, .drop, .drop, .drop, .drop, .drop, .drop, .drop, .drop, .drop, .drop, .drop, .drop, .drop, .drop, .drop, .drop, .drop, .drop, .drop, .drop, .drop, .drop, .drop, .drop, .drop, .drop, .drop, .as I .i, .as I .i, .drop, .drop, .drop, .keep, .as I .i, .as I .i]), (37, [.drop, .drop, .drop, .drop, .drop, .drop, .drop, .drop, .drop, .drop, .drop, .drop, .drop, .as (.sl I) (.o .i)]), (33, [.drop, .drop, .as (.sl I) .i, .drop, .drop, .drop, .drop, .drop, .as (.opt (.pair (.sl (.sl .bool)) (.pair (.sl (.sl I)) (.pair (.sl (.sl I)) .unit)))) .i, .as (.opt (.pair (.sl (.sl .bool)) (.pair (.sl (.sl I)) (.pair (.sl (.sl I)) .unit)))) .i, .drop, .as (.sl I) (.o .i), .as (.sl I) (.o .i), .as (.sl I) (.o .i), .drop, .as (.sl I) (.o .i), .drop, .drop, .drop, .drop, .drop, .drop, .drop, .drop, .drop, .drop, .drop, .drop, .drop, .drop, .drop, .drop, .drop, .drop, .drop, .drop, .drop, .drop, .drop, .drop, .drop, .drop, .drop, .drop, .drop, .drop, .drop, .drop, .drop, .drop, .drop, .drop, .drop, .as I .i, .as I .i])]
noncomputable def zz61_R7 (N n : Nat) (K : Ex → St → Option ((Y4 × (Bool × Unit)) × Unit)) (g2 : Y4) (l8 : Y1) (m9 : Y1) (from11 : Y4) (to12 : Y4) (list13 : Y4) (t53 : Int) (t54 : Int) : Option ((Y4 × (Bool × Unit)) × Unit) := iter ((A_zz61).shape 14) (run (A_zz61) N (codeAt Try.f48 [1, 1, 1, 1, 1, 0, 1, 0, 0])) n ([.u, .u, .val (.sl I) .i g2, .u, .u, .u, .u, .u, .val (.opt (.pair (.sl (.sl .bool)) (.pair (.sl (.sl I)) (.pair (.sl (.sl I)) .unit)))) .i l8, .val (.opt (.pair (.sl (.sl .bool)) (.pair (.sl (.sl I)) (.pair (.sl (.sl I)) .unit)))) .i m9, .u, .val (.sl I) (.o .i) from11, .val (.sl I) (.o .i) to12, .val (.sl I) (.o .i) list13, .u, .u, .u, .u, .u, .u, .u, .u, .u, .u, .u, .u, .u, .u, .u, .u, .u, .u, .u, .u, .u, .u, .u, .u, .u, .u, .u, .u, .u, .u, .u, .u, .u, .u, .u, .u, .u, .u, .u, .val I .i t53, .val I .i t54] ++ List.replicate 39 .u) K
noncomputable def zz61_R11 (N n : Nat) (K : Ex → St → Option ((Y4 × (Bool × Unit)) × Unit)) (g2 : Y4) (l8 : Y1) (m9 : Y1) (from11 : Y4) (to12 : Y4) (list13 : Y4) (x14 : Int) (some15 : Y4) (t53 : Int) (t54 : Int) (t59 : Int) (t60 : Int) : Option ((Y4 × (Bool × Unit)) × Unit) := iter ((A_zz61).shape 22) (run (A_zz61) N (codeAt Try.f48 [1, 1, 1, 1, 1, 0, 1, 0, 0, 1, 1, 0, 0, 1, 1, 0, 1, 0, 0])) n ([.u, .u, .val (.sl I) .i g2, .u, .u, .u, .u, .u, .val (.opt (.pair (.sl (.sl .bool)) (.pair (.sl (.sl I)) (.pair (.sl (.sl I)) .unit)))) .i l8, .val (.opt (.pair (.sl (.sl .bool)) (.pair (.sl (.sl I)) (.pair (.sl (.sl I)) .unit)))) .i m9, .u, .val (.sl I) (.o .i) from11, .val (.sl I) (.o .i) to12, .val (.sl I) (.o .i) list13, .val I .i x14, .val (.sl I) (.o .i) some15, .u, .u, .u, .u, .u, .u, .u, .u, .u, .u, .u, .u, .u, .u, .u, .u, .u, .u, .u, .u, .u, .u, .u, .u, .u, .u, .u, .u, .u, .u, .u, .u, .u, .u, .u, .u, .u, .val I .i t53, .val I .i t54, .u, .u, .u, .ref 12 [] .val, .val I .i t59, .val I .i t60] ++ List.replicate 33 .u) K
noncomputable abbrev zz61_z : Ex → St → Option ((Y4 × (Bool × Unit)) × Unit) := finish (A_zz61) S_zz61 Try.f48.results.toList
noncomputable abbrev zz61_X7 (kX : St → Option ((Y4 × (Bool × Unit)) × Unit)) : Y4 → Option ((Y4 × (Bool × Unit)) × Unit) := fun (list13 : Y4) => kX ([.u, .u, .u, .u, .u, .u, .u, .u, .u, .u, .u, .u, .u, .val (.sl I) (.o .i) list13] ++ List.replicate 80 .u)
noncomputable abbrev zz61_E7 (kX : St → Option ((Y4 × (Bool × Unit)) × Unit)) (kO : Nat → St → Option ((Y4 × (Bool × Unit)) × Unit)) : Ex → St → Option ((Y4 × (Bool × Unit)) × Unit) := exK zz61_z 0 ((A_zz61).shape 37) kX kO
noncomputable abbrev zz61_X11 (kX : St → Option ((Y4 × (Bool × Unit)) × Unit)) : Y4 → Y1 → Y1 → Y4 → Y4 → Y4 → Y4 → Int → Int → Option ((Y4 × (Bool × Unit)) × Unit) := fun (g2 : Y4) (l8 : Y1) (m9 : Y1) (from11 : Y4) (to12 : Y4) (list13 : Y4) (some15 : Y4) (t53 : Int) (t54 : Int) => kX ([.u, .u, .val (.sl I) .i g2, .u, .u, .u, .u, .u, .val (.opt (.pair (.sl (.sl .bool)) (.pair (.sl (.sl I)) (.pair (.sl (.sl I)) .unit)))) .i l8, .val (.opt (.pair (.sl (.sl .bool)) (.pair (.sl (.sl I)) (.pair (.sl (.sl I)) .unit)))) .i m9, .u, .val (.sl I) (.o .i) from11, .val (.sl I) (.o .i) to12, .val (.sl I) (.o .i) list13, .u, .val (.sl I) (.o .i) some15, .u, .u, .u, .u, .u, .u, .u, .u, .u, .u, .u, .u, .u, .u, .u, .u, .u, .u, .u, .u, .u, .u, .u, .u, .u, .u, .u, .u, .u, .u, .u, .u, .u, .u, .u, .u, .u, .val I .i t53, .val I .i t54] ++ List.replicate 39 .u)
noncomputable abbrev zz61_E11 (kX : St → Option ((Y4 × (Bool × Unit)) × Unit)) (kO : Nat → St → Option ((Y4 × (Bool × Unit)) × Unit)) : Ex → St → Option ((Y4 × (Bool × Unit)) × Unit) := exK zz61_z 2 ((A_zz61).shape 33) kX kO
theorem zz61_step11 (N : Nat) (m : Nat) (kX : St → Option ((Y4 × (Bool × Unit)) × Unit)) (kO : Nat → St → Option ((Y4 × (Bool × Unit)) × Unit)) (g2 : Y4) (l8 : Y1) (m9 : Y1) (from11 : Y4) (to12 : Y4) (list13 : Y4) (x14 : Int) (some15 : Y4) (t53 : Int) (t54 : Int) (t59 : Int) (t60 : Int) : zz61_R11 N (m + 1) (zz61_E11 kX kO) g2 l8 m9 from11 to12 list13 x14 some15 t53 t54 t59 t60 = zz61_b11 (zz61_R11 N m (zz61_E11 kX kO)) (zz61_X11 kX) g2 l8 m9 from11 to12 list13 x14 some15 t53 t54 t59 t60 := by kernel_rfl
theorem zz61_iter11 (N : Nat) (kX : St → Option ((Y4 × (Bool × Unit)) × Unit)) (kO : Nat → St → Option ((Y4 × (Bool × Unit)) × Unit)) : ∀ (n : Nat) (g2 : Y4) (l8 : Y1) (m9 : Y1) (from11 : Y4) (to12 : Y4) (list13 : Y4) (x14 : Int) (some15 : Y4) (t53 : Int) (t54 : Int) (t59 : Int) (t60 : Int), zz61_R11 N n (zz61_E11 kX kO) g2 l8 m9 from11 to12 list13 x14 some15 t53 t54 t59 t60 = zz61_l11 N (zz61_X11 kX) n g2 l8 m9 from11 to12 list13 x14 some15 t53 t54 t59 t60
  | 0, _, _, _, _, _, _, _, _, _, _, _, _ => rfl
  | m + 1, g2, l8, m9, from11, to12, list13, x14, some15, t53, t54, t59, t60 => by
    have hrec : zz61_R11 N m (zz61_E11 kX kO) = (zz61_l11 N (zz61_X11 kX) m) := (funext fun g2 => (funext fun l8 => (funext fun m9 => (funext fun from11 => (funext fun to12 => (funext fun list13 => (funext fun x14 => (funext fun some15 => (funext fun t53 => (funext fun t54 => (funext fun t59 => (funext fun t60 => zz61_iter11 N kX kO m g2 l8 m9 from11 to12 list13 x14 some15 t53 t54 t59 t60))))))))))))
    refine (zz61_step11 N m kX kO g2 l8 m9 from11 to12 list13 x14 some15 t53 t54 t59 t60).trans ?_
    rw [hrec]
    rfl
noncomputable abbrev zz61_K11 (N : Nat) (m : Nat) (kX : St → Option ((Y4 × (Bool × Unit)) × Unit)) (kO : Nat → St → Option ((Y4 × (Bool × Unit)) × Unit)) : Ex → St → Option ((Y4 × (Bool × Unit)) × Unit) := (blockK 2 (seqK ((A_zz61).shape 33) (run (A_zz61) N (codeAt Try.f48 [1, 1, 1, 1, 1, 0, 1, 0, 0, 1, 1, 0, 0, 1, 1, 1])) (blockK 1 (seqK ((A_zz61).shape 35) (run (A_zz61) N (codeAt Try.f48 [1, 1, 1, 1, 1, 0, 1, 0, 0, 1, 1, 1])) (iterK ((A_zz61).shape 14) (run (A_zz61) N (codeAt Try.f48 [1, 1, 1, 1, 1, 0, 1, 0, 0])) m (zz61_E7 kX kO))))))
noncomputable abbrev zz61_k11 (N : Nat) (m : Nat) (kX : St → Option ((Y4 × (Bool × Unit)) × Unit)) (kO : Nat → St → Option ((Y4 × (Bool × Unit)) × Unit)) : St → Option ((Y4 × (Bool × Unit)) × Unit) := fun st' => run (A_zz61) N (codeAt Try.f48 [1, 1, 1, 1, 1, 0, 1, 0, 0, 1, 1, 0, 0, 1, 1, 1]) st' (blockK 1 (seqK ((A_zz61).shape 35) (run (A_zz61) N (codeAt Try.f48 [1, 1, 1, 1, 1, 0, 1, 0, 0, 1, 1, 1])) (iterK ((A_zz61).shape 14) (run (A_zz61) N (codeAt Try.f48 [1, 1, 1, 1, 1, 0, 1, 0, 0])) m (zz61_E7 kX kO))))
theorem zz61_after11 (N : Nat) (m : Nat) (kX : St → Option ((Y4 × (Bool × Unit)) × Unit)) (kO : Nat → St → Option ((Y4 × (Bool × Unit)) × Unit)) (g2 : Y4) (l8 : Y1) (m9 : Y1) (from11 : Y4) (to12 : Y4) (list13 : Y4) (some15 : Y4) (t53 : Int) (t54 : Int) : zz61_X11 (zz61_k11 N m kX kO) g2 l8 m9 from11 to12 list13 some15 t53 t54 = zz61_a11 (zz61_R7 N m (zz61_E7 kX kO)) g2 l8 m9 from11 to12 list13 some15 t53 t54 := by kernel_rfl
theorem zz61_in11 (N : Nat) (m : Nat) (kX : St → Option ((Y4 × (Bool × Unit)) × Unit)) (kO : Nat → St → Option ((Y4 × (Bool × Unit)) × Unit)) (recF : Y4 → Y1 → Y1 → Y4 → Y4 → Y4 → Int → Int → Option ((Y4 × (Bool × Unit)) × Unit)) (hrec : zz61_R7 N m (zz61_E7 kX kO) = recF) (g2 : Y4) (l8 : Y1) (m9 : Y1) (from11 : Y4) (to12 : Y4) (list13 : Y4) (x14 : Int) (some15 : Y4) (t53 : Int) (t54 : Int) (t59 : Int) (t60 : Int) : zz61_R11 N N (zz61_K11 N m kX kO) g2 l8 m9 from11 to12 list13 x14 some15 t53 t54 t59 t60 = zz61_F11 N recF (zz61_X7 kX) g2 l8 m9 from11 to12 list13 x14 some15 t53 t54 t59 t60 :=
  have h : zz61_X11 (zz61_k11 N m kX kO) = (zz61_a11 recF) := (funext fun g2 => (funext fun l8 => (funext fun m9 => (funext fun from11 => (funext fun to12 => (funext fun list13 => (funext fun some15 => (funext fun t53 => (funext fun t54 => (zz61_after11 N m kX kO g2 l8 m9 from11 to12 list13 some15 t53 t54).trans (by rw [hrec]))))))))))
  ((iter_ex (fun st => by kernel_rfl) (fun st => by kernel_rfl)).trans (zz61_iter11 N (zz61_k11 N m kX kO) (fun j st => (zz61_K11 N m kX kO) (.exit j) st) N g2 l8 m9 from11 to12 list13 x14 some15 t53 t54 t59 t60)).trans (congrArg (fun k => zz61_l11 N k N g2 l8 m9 from11 to12 list13 x14 some15 t53 t54 t59 t60) h)
theorem zz61_step7 (N : Nat) (m : Nat) (kX : St → Option ((Y4 × (Bool × Unit)) × Unit)) (kO : Nat → St → Option ((Y4 × (Bool × Unit)) × Unit)) (g2 : Y4) (l8 : Y1) (m9 : Y1) (from11 : Y4) (to12 : Y4) (list13 : Y4) (t53 : Int) (t54 : Int) : zz61_R7 N (m + 1) (zz61_E7 kX kO) g2 l8 m9 from11 to12 list13 t53 t54 = zz61_b7 (zz61_R11 N N (zz61_K11 N m kX kO)) (zz61_X7 kX) g2 l8 m9 from11 to12 list13 t53 t54 := by kernel_rfl
theorem zz61_iter7 (N : Nat) (kX : St → Option ((Y4 × (Bool × Unit)) × Unit)) (kO : Nat → St → Option ((Y4 × (Bool × Unit)) × Unit)) : ∀ (n : Nat) (g2 : Y4) (l8 : Y1) (m9 : Y1) (from11 : Y4) (to12 : Y4) (list13 : Y4) (t53 : Int) (t54 : Int), zz61_R7 N n (zz61_E7 kX kO) g2 l8 m9 from11 to12 list13 t53 t54 = zz61_l7 N (zz61_X7 kX) n g2 l8 m9 from11 to12 list13 t53 t54
  | 0, _, _, _, _, _, _, _, _ => rfl
  | m + 1, g2, l8, m9, from11, to12, list13, t53, t54 => by
    have hrec : zz61_R7 N m (zz61_E7 kX kO) = (zz61_l7 N (zz61_X7 kX) m) := (funext fun g2 => (funext fun l8 => (funext fun m9 => (funext fun from11 => (funext fun to12 => (funext fun list13 => (funext fun t53 => (funext fun t54 => zz61_iter7 N kX kO m g2 l8 m9 from11 to12 list13 t53 t54))))))))
    refine (zz61_step7 N m kX kO g2 l8 m9 from11 to12 list13 t53 t54).trans ?_
    rw [(funext fun g2 => (funext fun l8 => (funext fun m9 => (funext fun from11 => (funext fun to12 => (funext fun list13 => (funext fun x14 => (funext fun some15 => (funext fun t53 => (funext fun t54 => (funext fun t59 => (funext fun t60 => zz61_in11 N m kX kO (zz61_l7 N (zz61_X7 kX) m) hrec g2 l8 m9 from11 to12 list13 x14 some15 t53 t54 t59 t60))))))))))))]
    rfl
noncomputable abbrev zz61_K7 (N : Nat) : Ex → St → Option ((Y4 × (Bool × Unit)) × Unit) := (blockK 0 (seqK ((A_zz61).shape 37) (run (A_zz61) N (codeAt Try.f48 [1, 1, 1, 1, 1, 1])) zz61_z))
noncomputable abbrev zz61_k7 (N : Nat) : St → Option ((Y4 × (Bool × Unit)) × Unit) := fun st' => run (A_zz61) N (codeAt Try.f48 [1, 1, 1, 1, 1, 1]) st' zz61_z
theorem zz61_after7 (N : Nat) (list13 : Y4) : zz61_X7 (zz61_k7 N) list13 = zz61_a7 list13 := by kernel_rfl
theorem zz61_in7 (N : Nat) (g2 : Y4) (l8 : Y1) (m9 : Y1) (from11 : Y4) (to12 : Y4) (list13 : Y4) (t53 : Int) (t54 : Int) : zz61_R7 N N (zz61_K7 N) g2 l8 m9 from11 to12 list13 t53 t54 = zz61_F7 N g2 l8 m9 from11 to12 list13 t53 t54 :=
  have h : zz61_X7 (zz61_k7 N) = (zz61_a7) := (funext fun list13 => zz61_after7 N list13)
  ((iter_ex (fun st => by kernel_rfl) (fun st => by kernel_rfl)).trans (zz61_iter7 N (zz61_k7 N) (fun j st => (zz61_K7 N) (.exit j) st) N g2 l8 m9 from11 to12 list13 t53 t54)).trans (congrArg (fun k => zz61_l7 N k N g2 l8 m9 from11 to12 list13 t53 t54) h)
theorem run0_zz61 (N : Nat) (x : (S_zz61).a.den) : runF (A_zz61) N Try.f48 S_zz61 x = (zz61_s (zz61_R7 N N (zz61_K7 N)) x.1 x.2.1 x.2.2.1) := by kernel_rfl
theorem run_zz61 (N : Nat) (x : (S_zz61).a.den) : runF (A_zz61) N Try.f48 S_zz61 x = zz61 N x.1 x.2.1 x.2.2.1 := by
  refine (run0_zz61 N x).trans ?_
  rw [(funext fun g2 => (funext fun l8 => (funext fun m9 => (funext fun from11 => (funext fun to12 => (funext fun list13 => (funext fun t53 => (funext fun t54 => zz61_in7 N g2 l8 m9 from11 to12 list13 t53 t54))))))))]
  rfl
theorem fn_zz61 : FnOk Try.prog 48 := ⟨_, Try.func48, by kernel_rfl, by kernel_rfl⟩
theorem good_zz61 : Gx.Good Try.prog 48 S_zz61 := good_of_run Try.func48 (of_decide_eq_true (by kernel_rfl)) fun x r h => ⟨A_zz61, big, mkCfg_ok tabOk, mkCfg_sigs (show SigsOk Try.prog [(100, S_zz53), (98, S_zz59), (101, S_zz31), (102, S_zz60)] from ⟨⟨fn_zz53, good_zz53⟩, ⟨fn_zz59, good_zz59⟩, ⟨fn_zz31, good_zz31⟩, ⟨fn_zz60, good_zz60⟩, trivial⟩), (run_zz61 big x).trans h⟩

/-! zz62 -/
def zz62_b4 (rec : Y4 → Y4 → Int → Option (Bool × Unit)) (k : Option (Bool × Unit)) (a0 : Y4) (b1 : Y4) (i5 : Int) : Option (Bool × Unit) :=
  cond (decide (i5 < (a0.length : Int)))
  ((atI a0 i5).bind fun xq1 =>
  (atI b1 i5).bind fun xq2 =>
  cond (decide (xq1 ≠ xq2))
  (some (false, (())))
  (rec a0 b1 (IntKind.i64.wrap (i5 + (1 : Int)))))
  (k)
def zz62_a4 : Option (Bool × Unit) :=
  some (true, (()))
def zz62_s (L4 : Y4 → Y4 → Int → Option (Bool × Unit)) (a_0 : Y4) (b_1 : Y4) : Option (Bool × Unit) :=
  cond (decide ((a_0.length : Int) ≠ (b_1.length : Int)))
  (some (false, (())))
  (L4 a_0 b_1 (0 : Int))
def zz62_l4 (N : Nat) (k : Option (Bool × Unit)) : Nat → Y4 → Y4 → Int → Option (Bool × Unit)
  | 0, _, _, _ => none
  | m + 1, a0, b1, i5 => zz62_b4 (zz62_l4 N k m) k a0 b1 i5
def zz62_F4 (N : Nat) (a0 : Y4) (b1 : Y4) (i5 : Int) : Option (Bool × Unit) := zz62_l4 N (zz62_a4) N a0 b1 i5
def zz62 (N : Nat) (a_0 : Y4) (b_1 : Y4) : Option (Bool × Unit) := zz62_s (zz62_F4 N) a_0 b_1
def S_zz62 : Sig := { a := (.pair (.sl I) (.pair (.sl I) .unit)), md := [0, 0], mf := [], m := .unit, r := .bool, rf := .i, f := fun x => zz62 big x.1 x.2.1 }
def A_zz62 : Cfg := mkCfg tab [] [(8, [.as (.sl I) .i, .as (.sl I) .i, .drop, .drop, .drop, .as I .i]), (17, [])]
noncomputable def zz62_R4 (N n : Nat) (K : Ex → St → Option (Bool × Unit)) (a0 : Y4) (b1 : Y4) (i5 : Int) : Option (Bool × Unit) := iter ((A_zz62).shape 8) (run (A_zz62) N (codeAt Try.f19 [1, 1, 0, 1, 0, 0])) n ([.val (.sl I) .i a0, .val (.sl I) .i b1, .u, .u, .u, .val I .i i5] ++ List.replicate 20 .u) K
noncomputable abbrev zz62_z : Ex → St → Option (Bool × Unit) := finish (A_zz62) S_zz62 Try.f19.results.toList
noncomputable abbrev zz62_X4 (kX : St → Option (Bool × Unit)) : Option (Bool × Unit) := kX ([] ++ List.replicate 26 .u)
noncomputable abbrev zz62_E4 (kX : St → Option (Bool × Unit)) (kO : Nat → St → Option (Bool × Unit)) : Ex → St → Option (Bool × Unit) := exK zz62_z 0 ((A_zz62).shape 17) kX kO
theorem zz62_step4 (N : Nat) (m : Nat) (kX : St → Option (Bool × Unit)) (kO : Nat → St → Option (Bool × Unit)) (a0 : Y4) (b1 : Y4) (i5 : Int) : zz62_R4 N (m + 1) (zz62_E4 kX kO) a0 b1 i5 = zz62_b4 (zz62_R4 N m (zz62_E4 kX kO)) (zz62_X4 kX) a0 b1 i5 := by kernel_rfl
theorem zz62_iter4 (N : Nat) (kX : St → Option (Bool × Unit)) (kO : Nat → St → Option (Bool × Unit)) : ∀ (n : Nat) (a0 : Y4) (b1 : Y4) (i5 : Int), zz62_R4 N n (zz62_E4 kX kO) a0 b1 i5 = zz62_l4 N (zz62_X4 kX) n a0 b1 i5
  | 0, _, _, _ => rfl
  | m + 1, a0, b1, i5 => by
    have hrec : zz62_R4 N m (zz62_E4 kX kO) = (zz62_l4 N (zz62_X4 kX) m) := (funext fun a0 => (funext fun b1 => (funext fun i5 => zz62_iter4 N kX kO m a0 b1 i5)))
    refine (zz62_step4 N m kX kO a0 b1 i5).trans ?_
    rw [hrec]
    rfl
noncomputable abbrev zz62_K4 (N : Nat) : Ex → St → Option (Bool × Unit) := (blockK 0 (seqK ((A_zz62).shape 17) (run (A_zz62) N (codeAt Try.f19 [1, 1, 1])) zz62_z))
noncomputable abbrev zz62_k4 (N : Nat) : St → Option (Bool × Unit) := fun st' => run (A_zz62) N (codeAt Try.f19 [1, 1, 1]) st' zz62_z
theorem zz62_after4 (N : Nat) : zz62_X4 (zz62_k4 N) = zz62_a4 := by kernel_rfl
theorem zz62_in4 (N : Nat) (a0 : Y4) (b1 : Y4) (i5 : Int) : zz62_R4 N N (zz62_K4 N) a0 b1 i5 = zz62_F4 N a0 b1 i5 :=
  have h : zz62_X4 (zz62_k4 N) = (zz62_a4) := zz62_after4 N
  ((iter_ex (fun st => by kernel_rfl) (fun st => by kernel_rfl)).trans (zz62_iter4 N (zz62_k4 N) (fun j st => (zz62_K4 N) (.exit j) st) N a0 b1 i5)).trans (congrArg (fun k => zz62_l4 N k N a0 b1 i5) h)
theorem run0_zz62 (N : Nat) (x : (S_zz62).a.den) : runF (A_zz62) N Try.f19 S_zz62 x = (zz62_s (zz62_R4 N N (zz62_K4 N)) x.1 x.2.1) := by kernel_rfl
theorem run_zz62 (N : Nat) (x : (S_zz62).a.den) : runF (A_zz62) N Try.f19 S_zz62 x = zz62 N x.1 x.2.1 := by
  refine (run0_zz62 N x).trans ?_
  rw [(funext fun a0 => (funext fun b1 => (funext fun i5 => zz62_in4 N a0 b1 i5)))]
  rfl
theorem fn_zz62 : FnOk Try.prog 19 := ⟨_, Try.func19, by kernel_rfl, by kernel_rfl⟩
theorem good_zz62 : Gx.Good Try.prog 19 S_zz62 := good_of_run Try.func19 (of_decide_eq_true (by kernel_rfl)) fun x r h => ⟨A_zz62, big, mkCfg_ok tabOk, mkCfg_sigs (show SigsOk Try.prog [] from trivial), (run_zz62 big x).trans h⟩

/-! zz63 -/
def zz63_b4 (rec : Y3 → Y3 → Int → Option (Bool × Unit)) (k : Option (Bool × Unit)) (a0 : Y3) (b1 : Y3) (i5 : Int) : Option (Bool × Unit) :=
  cond (decide (i5 < (a0.length : Int)))
  ((atI a0 i5).bind fun xq1 =>
  (atI b1 i5).bind fun xq2 =>
  (zz62 big xq1 xq2).bind fun rq3 =>
  cond (!rq3.1)
  (some (false, (())))
  (rec a0 b1 (IntKind.i64.wrap (i5 + (1 : Int)))))
  (k)
def zz63_a4 : Option (Bool × Unit) :=
  some (true, (()))
def zz63_s (L4 : Y3 → Y3 → Int → Option (Bool × Unit)) (a_0 : Y3) (b_1 : Y3) : Option (Bool × Unit) :=
  cond (decide ((a_0.length : Int) ≠ (b_1.length : Int)))
  (some (false, (())))
  (L4 a_0 b_1 (0 : Int))
def zz63_l4 (N : Nat) (k : Option (Bool × Unit)) : Nat → Y3 → Y3 → Int → Option (Bool × Unit)
  | 0, _, _, _ => none
  | m + 1, a0, b1, i5 => zz63_b4 (zz63_l4 N k m) k a0 b1 i5
def zz63_F4 (N : Nat) (a0 : Y3) (b1 : Y3) (i5 : Int) : Option (Bool × Unit) := zz63_l4 N (zz63_a4) N a0 b1 i5
def zz63 (N : Nat) (a_0 : Y3) (b_1 : Y3) : Option (Bool × Unit) := zz63_s (zz63_F4 N) a_0 b_1
def S_zz63 : Sig := { a := (.pair (.sl (.sl I)) (.pair (.sl (.sl I)) .unit)), md := [0, 0], mf := [], m := .unit, r := .bool, rf := .i, f := fun x => zz63 big x.1 x.2.1 }
def A_zz63 : Cfg := mkCfg tab [(19, S_zz62)] [(8, [.as (.sl (.sl I)) .i, .as (.sl (.sl I)) .i, .drop, .drop, .drop, .as I .i]), (17, [])]
noncomputable def zz63_R4 (N n : Nat) (K : Ex → St → Option (Bool × Unit)) (a0 : Y3) (b1 : Y3) (i5 : Int) : Option (Bool × Unit) := iter ((A_zz63).shape 8) (run (A_zz63) N (codeAt Try.f26 [1, 1, 0, 1, 0, 0])) n ([.val (.sl (.sl I)) .i a0, .val (.sl (.sl I)) .i b1, .u, .u, .u, .val I .i i5] ++ List.replicate 21 .u) K
noncomputable abbrev zz63_z : Ex → St → Option (Bool × Unit) := finish (A_zz63) S_zz63 Try.f26.results.toList
noncomputable abbrev zz63_X4 (kX : St → Option (Bool × Unit)) : Option (Bool × Unit) := kX ([] ++ List.replicate 27 .u)
noncomputable abbrev zz63_E4 (kX : St → Option (Bool × Unit)) (kO : Nat → St → Option (Bool × Unit)) : Ex → St → Option (Bool × Unit) := exK zz63_z 0 ((A_zz63).shape 17) kX kO
theorem zz63_step4 (N : Nat) (m : Nat) (kX : St → Option (Bool × Unit)) (kO : Nat → St → Option (Bool × Unit)) (a0 : Y3) (b1 : Y3) (i5 : Int) : zz63_R4 N (m + 1) (zz63_E4 kX kO) a0 b1 i5 = zz63_b4 (zz63_R4 N m (zz63_E4 kX kO)) (zz63_X4 kX) a0 b1 i5 := by kernel_rfl
theorem zz63_iter4 (N : Nat) (kX : St → Option (Bool × Unit)) (kO : Nat → St → Option (Bool × Unit)) : ∀ (n : Nat) (a0 : Y3) (b1 : Y3) (i5 : Int), zz63_R4 N n (zz63_E4 kX kO) a0 b1 i5 = zz63_l4 N (zz63_X4 kX) n a0 b1 i5
  | 0, _, _, _ => rfl
  | m + 1, a0, b1, i5 => by
    have hrec : zz63_R4 N m (zz63_E4 kX kO) = (zz63_l4 N (zz63_X4 kX) m) := (funext fun a0 => (funext fun b1 => (funext fun i5 => zz63_iter4 N kX kO m a0 b1 i5)))
    refine (zz63_step4 N m kX kO a0 b1 i5).trans ?_
    rw [hrec]
    rfl
noncomputable abbrev zz63_K4 (N : Nat) : Ex → St → Option (Bool × Unit) := (blockK 0 (seqK ((A_zz63).shape 17) (run (A_zz63) N (codeAt Try.f26 [1, 1, 1])) zz63_z))
noncomputable abbrev zz63_k4 (N : Nat) : St → Option (Bool × Unit) := fun st' => run (A_zz63) N (codeAt Try.f26 [1, 1, 1]) st' zz63_z
theorem zz63_after4 (N : Nat) : zz63_X4 (zz63_k4 N) = zz63_a4 := by kernel_rfl
theorem zz63_in4 (N : Nat) (a0 : Y3) (b1 : Y3) (i5 : Int) : zz63_R4 N N (zz63_K4 N) a0 b1 i5 = zz63_F4 N a0 b1 i5 :=
  have h : zz63_X4 (zz63_k4 N) = (zz63_a4) := zz63_after4 N
  ((iter_ex (fun st => by kernel_rfl) (fun st => by kernel_rfl)).trans (zz63_iter4 N (zz63_k4 N) (fun j st => (zz63_K4 N) (.exit j) st) N a0 b1 i5)).trans (congrArg (fun k => zz63_l4 N k N a0 b1 i5) h)
theorem run0_zz63 (N : Nat) (x : (S_zz63).a.den) : runF (A_zz63) N Try.f26 S_zz63 x = (zz63_s (zz63_R4 N N (zz63_K4 N)) x.1 x.2.1) := by kernel_rfl
theorem run_zz63 (N : Nat) (x : (S_zz63).a.den) : runF (A_zz63) N Try.f26 S_zz63 x = zz63 N x.1 x.2.1 := by
  refine (run0_zz63 N x).trans ?_
  rw [(funext fun a0 => (funext fun b1 => (funext fun i5 => zz63_in4 N a0 b1 i5)))]
  rfl
theorem fn_zz63 : FnOk Try.prog 26 := ⟨_, Try.func26, by kernel_rfl, by kernel_rfl⟩
theorem good_zz63 : Gx.Good Try.prog 26 S_zz63 := good_of_run Try.func26 (of_decide_eq_true (by kernel_rfl)) fun x r h => ⟨A_zz63, big, mkCfg_ok tabOk, mkCfg_sigs (show SigsOk Try.prog [(19, S_zz62)] from ⟨⟨fn_zz62, good_zz62⟩, trivial⟩), (run_zz63 big x).trans h⟩

/-! zz64 -/
def zz64_s (a_0 : Y2) (b_1 : Y2) : Option (Bool × Unit) :=
  (zz63 big a_0.1 b_1.1).bind fun rq1 =>
  cond (!rq1.1)
  (some (false, (())))
  (some (true, (())))
def zz64 (a_0 : Y2) (b_1 : Y2) : Option (Bool × Unit) := zz64_s a_0 b_1
def S_zz64 : Sig := { a := (.pair (.pair (.sl (.sl I)) .unit) (.pair (.pair (.sl (.sl I)) .unit) .unit)), md := [0, 0], mf := [], m := .unit, r := .bool, rf := .i, f := fun x => zz64 x.1 x.2.1 }
def A_zz64 : Cfg := mkCfg tab [(26, S_zz63)] []
theorem run_zz64 (N : Nat) (x : (S_zz64).a.den) : runF (A_zz64) N Try.f20 S_zz64 x = zz64 x.1 x.2.1 := by kernel_rfl
theorem fn_zz64 : FnOk Try.prog 20 := ⟨_, Try.func20, by kernel_rfl, by kernel_rfl⟩
theorem good_zz64 : Gx.Good Try.prog 20 S_zz64 := good_of_run Try.func20 (of_decide_eq_true (by kernel_rfl)) fun x r h => ⟨A_zz64, big, mkCfg_ok tabOk, mkCfg_sigs (show SigsOk Try.prog [(26, S_zz63)] from ⟨⟨fn_zz63, good_zz63⟩, trivial⟩), (run_zz64 big x).trans h⟩

/-! zz65 -/
def zz65_b2 (rec : Y4 → Int → Int → Option Y6) (k : Y4 → Int → Option Y6) (a0 : Y4) (k1 : Int) (i5 : Int) : Option Y6 :=
  cond (decide (i5 < (a0.length : Int)))
  ((atI a0 i5).bind fun _ =>
  (a0[i5.toNat]?).bind fun xq1 =>
  rec (a0.set i5.toNat k1) (IntKind.i64.wrap (k1 + (1 : Int))) (IntKind.i64.wrap (i5 + (1 : Int))))
  (k a0 k1)
def zz65_a2 (a0 : Y4) (k1 : Int) : Option Y6 :=
  some (k1, (a0, ()))
def zz65_s (L2 : Y4 → Int → Int → Option Y6) (a_0 : Y4) (k_1 : Int) : Option Y6 :=
  L2 a_0 k_1 (0 : Int)
def zz65_l2 (N : Nat) (k : Y4 → Int → Option Y6) : Nat → Y4 → Int → Int → Option Y6
  | 0, _, _, _ => none
  | m + 1, a0, k1, i5 => zz65_b2 (zz65_l2 N k m) k a0 k1 i5
def zz65_F2 (N : Nat) (a0 : Y4) (k1 : Int) (i5 : Int) : Option Y6 := zz65_l2 N (zz65_a2) N a0 k1 i5
def zz65 (N : Nat) (a_0 : Y4) (k_1 : Int) : Option Y6 := zz65_s (zz65_F2 N) a_0 k_1
def S_zz65 : Sig := { a := (.pair (.sl I) (.pair I .unit)), md := [1, 0], mf := [(.o .i)], m := (.pair (.sl I) .unit), r := I, rf := .i, f := fun x => zz65 big x.1 x.2.1 }
def A_zz65 : Cfg := mkCfg tab [] [(4, [.as (.sl I) (.o .i), .as I .i, .drop, .drop, .drop, .as I .i]), (13, [.as (.sl I) (.o .i), .as I .i])]
noncomputable def zz65_R2 (N n : Nat) (K : Ex → St → Option Y6) (a0 : Y4) (k1 : Int) (i5 : Int) : Option Y6 := iter ((A_zz65).shape 4) (run (A_zz65) N (codeAt Try.f22 [1, 0, 1, 0, 0])) n ([.val (.sl I) (.o .i) a0, .val I .i k1, .u, .u, .u, .val I .i i5] ++ List.replicate 13 .u) K
noncomputable abbrev zz65_z : Ex → St → Option Y6 := finish (A_zz65) S_zz65 Try.f22.results.toList
noncomputable abbrev zz65_X2 (kX : St → Option Y6) : Y4 → Int → Option Y6 := fun (a0 : Y4) (k1 : Int) => kX ([.val (.sl I) (.o .i) a0, .val I .i k1] ++ List.replicate 17 .u)
noncomputable abbrev zz65_E2 (kX : St → Option Y6) (kO : Nat → St → Option Y6) : Ex → St → Option Y6 := exK zz65_z 0 ((A_zz65).shape 13) kX kO
theorem zz65_step2 (N : Nat) (m : Nat) (kX : St → Option Y6) (kO : Nat → St → Option Y6) (a0 : Y4) (k1 : Int) (i5 : Int) : zz65_R2 N (m + 1) (zz65_E2 kX kO) a0 k1 i5 = zz65_b2 (zz65_R2 N m (zz65_E2 kX kO)) (zz65_X2 kX) a0 k1 i5 := by kernel_rfl
theorem zz65_iter2 (N : Nat) (kX : St → Option Y6) (kO : Nat → St → Option Y6) : ∀ (n : Nat) (a0 : Y4) (k1 : Int) (i5 : Int), zz65_R2 N n (zz65_E2 kX kO) a0 k1 i5 = zz65_l2 N (zz65_X2 kX) n a0 k1 i5
  | 0, _, _, _ => rfl
  | m + 1, a0, k1, i5 => by
    have hrec : zz65_R2 N m (zz65_E2 kX kO) = (zz65_l2 N (zz65_X2 kX) m) := (funext fun a0 => (funext fun k1 => (funext fun i5 => zz65_iter2 N kX kO m a0 k1 i5)))
    refine (zz65_step2 N m kX kO a0 k1 i5).trans ?_
    rw [hrec]
    rfl
noncomputable abbrev zz65_K2 (N : Nat) : Ex → St → Option Y6 := (blockK 0 (seqK ((A_zz65).shape 13) (run (A_zz65) N (codeAt Try.f22 [1, 1])) zz65_z))
noncomputable abbrev zz65_k2 (N : Nat) : St → Option Y6 := fun st' => run (A_zz65) N (codeAt Try.f22 [1, 1]) st' zz65_z
theorem zz65_after2 (N : Nat) (a0 : Y4) (k1 : Int) : zz65_X2 (zz65_k2 N) a0 k1 = zz65_a2 a0 k1 := by kernel_rfl
theorem zz65_in2 (N : Nat) (a0 : Y4) (k1 : Int) (i5 : Int) : zz65_R2 N N (zz65_K2 N) a0 k1 i5 = zz65_F2 N a0 k1 i5 :=
  have h : zz65_X2 (zz65_k2 N) = (zz65_a2) := (funext fun a0 => (funext fun k1 => zz65_after2 N a0 k1))
  ((iter_ex (fun st => by kernel_rfl) (fun st => by kernel_rfl)).trans (zz65_iter2 N (zz65_k2 N) (fun j st => (zz65_K2 N) (.exit j) st) N a0 k1 i5)).trans (congrArg (fun k => zz65_l2 N k N a0 k1 i5) h)
theorem run0_zz65 (N : Nat) (x : (S_zz65).a.den) : runF (A_zz65) N Try.f22 S_zz65 x = (zz65_s (zz65_R2 N N (zz65_K2 N)) x.1 x.2.1) := by kernel_rfl
theorem run_zz65 (N : Nat) (x : (S_zz65).a.den) : runF (A_zz65) N Try.f22 S_zz65 x = zz65 N x.1 x.2.1 := by
  refine (run0_zz65 N x).trans ?_
  rw [(funext fun a0 => (funext fun k1 => (funext fun i5 => zz65_in2 N a0 k1 i5)))]
  rfl
theorem fn_zz65 : FnOk Try.prog 22 := ⟨_, Try.func22, by kernel_rfl, by kernel_rfl⟩
theorem good_zz65 : Gx.Good Try.prog 22 S_zz65 := good_of_run Try.func22 (of_decide_eq_true (by kernel_rfl)) fun x r h => ⟨A_zz65, big, mkCfg_ok tabOk, mkCfg_sigs (show SigsOk Try.prog [] from trivial), (run_zz65 big x).trans h⟩

/-! zz66 -/
def zz66_b2 (rec : Y3 → Int → Int → Option (Int × Y2)) (k : Y3 → Int → Option (Int × Y2)) (a0 : Y3) (k1 : Int) (i5 : Int) : Option (Int × Y2) :=
  cond (decide (i5 < (a0.length : Int)))
  ((atI a0 i5).bind fun _ =>
  (a0[i5.toNat]?).bind fun xq1 =>
  (a0[i5.toNat]?).bind fun xq2 =>
  (zz65 big xq2 k1).bind fun rq3 =>
  (a0[i5.toNat]?).bind fun xq4 =>
  (a0[i5.toNat]?).bind fun xq5 =>
  rec (a0.set i5.toNat rq3.2.1) rq3.1 (IntKind.i64.wrap (i5 + (1 : Int))))
  (k a0 k1)
def zz66_a2 (a0 : Y3) (k1 : Int) : Option (Int × Y2) :=
  some (k1, (a0, ()))
def zz66_s (L2 : Y3 → Int → Int → Option (Int × Y2)) (a_0 : Y3) (k_1 : Int) : Option (Int × Y2) :=
  L2 a_0 k_1 (0 : Int)
def zz66_l2 (N : Nat) (k : Y3 → Int → Option (Int × Y2)) : Nat → Y3 → Int → Int → Option (Int × Y2)
  | 0, _, _, _ => none
  | m + 1, a0, k1, i5 => zz66_b2 (zz66_l2 N k m) k a0 k1 i5
def zz66_F2 (N : Nat) (a0 : Y3) (k1 : Int) (i5 : Int) : Option (Int × Y2) := zz66_l2 N (zz66_a2) N a0 k1 i5
def zz66 (N : Nat) (a_0 : Y3) (k_1 : Int) : Option (Int × Y2) := zz66_s (zz66_F2 N) a_0 k_1
def S_zz66 : Sig := { a := (.pair (.sl (.sl I)) (.pair I .unit)), md := [1, 0], mf := [(.o (.o .i))], m := (.pair (.sl (.sl I)) .unit), r := I, rf := .i, f := fun x => zz66 big x.1 x.2.1 }
def A_zz66 : Cfg := mkCfg tab [(22, S_zz65)] [(4, [.as (.sl (.sl I)) (.o (.o .i)), .as I .i, .drop, .drop, .drop, .as I .i]), (11, [.as (.sl (.sl I)) (.o (.o .i)), .as I .i])]
noncomputable def zz66_R2 (N n : Nat) (K : Ex → St → Option (Int × Y2)) (a0 : Y3) (k1 : Int) (i5 : Int) : Option (Int × Y2) := iter ((A_zz66).shape 4) (run (A_zz66) N (codeAt Try.f27 [1, 0, 1, 0, 0])) n ([.val (.sl (.sl I)) (.o (.o .i)) a0, .val I .i k1, .u, .u, .u, .val I .i i5] ++ List.replicate 13 .u) K
noncomputable abbrev zz66_z : Ex → St → Option (Int × Y2) := finish (A_zz66) S_zz66 Try.f27.results.toList
noncomputable abbrev zz66_X2 (kX : St → Option (Int × Y2)) : Y3 → Int → Option (Int × Y2) := fun (a0 : Y3) (k1 : Int) => kX ([.val (.sl (.sl I)) (.o (.o .i)) a0, .val I .i k1] ++ List.replicate 17 .u)
noncomputable abbrev zz66_E2 (kX : St → Option (Int × Y2)) (kO : Nat → St → Option (Int × Y2)) : Ex → St → Option (Int × Y2) := exK zz66_z 0 ((A_zz66).shape 11) kX kO
theorem zz66_step2 (N : Nat) (m : Nat) (kX : St → Option (Int × Y2)) (kO : Nat → St → Option (Int × Y2)) (a0 : Y3) (k1 : Int) (i5 : Int) : zz66_R2 N (m + 1) (zz66_E2 kX kO) a0 k1 i5 = zz66_b2 (zz66_R2 N m (zz66_E2 kX kO)) (zz66_X2 kX) a0 k1 i5 := by kernel_rfl
theorem zz66_iter2 (N : Nat) (kX : St → Option (Int × Y2)) (kO : Nat → St → Option (Int × Y2)) : ∀ (n : Nat) (a0 : Y3) (k1 : Int) (i5 : Int), zz66_R2 N n (zz66_E2 kX kO) a0 k1 i5 = zz66_l2 N (zz66_X2 kX) n a0 k1 i5
  | 0, _, _, _ => rfl
  | m + 1, a0, k1, i5 => by
    have hrec : zz66_R2 N m (zz66_E2 kX kO) = (zz66_l2 N (zz66_X2 kX) m) := (funext fun a0 => (funext fun k1 => (funext fun i5 => zz66_iter2 N kX kO m a0 k1 i5)))
    refine (zz66_step2 N m kX kO a0 k1 i5).trans ?_
    rw [hrec]
    rfl
noncomputable abbrev zz66_K2 (N : Nat) : Ex → St → Option (Int × Y2) := (blockK 0 (seqK ((A_zz66).shape 11) (run (A_zz66) N (codeAt Try.f27 [1, 1])) zz66_z))
noncomputable abbrev zz66_k2 (N : Nat) : St → Option (Int × Y2) := fun st' => run (A_zz66) N (codeAt Try.f27 [1, 1]) st' zz66_z
theorem zz66_after2 (N : Nat) (a0 : Y3) (k1 : Int) : zz66_X2 (zz66_k2 N) a0 k1 = zz66_a2 a0 k1 := by kernel_rfl
theorem zz66_in2 (N : Nat) (a0 : Y3) (k1 : Int) (i5 : Int) : zz66_R2 N N (zz66_K2 N) a0 k1 i5 = zz66_F2 N a0 k1 i5 :=
  have h : zz66_X2 (zz66_k2 N) = (zz66_a2) := (funext fun a0 => (funext fun k1 => zz66_after2 N a0 k1))
  ((iter_ex (fun st => by kernel_rfl) (fun st => by kernel_rfl)).trans (zz66_iter2 N (zz66_k2 N) (fun j st => (zz66_K2 N) (.exit j) st) N a0 k1 i5)).trans (congrArg (fun k => zz66_l2 N k N a0 k1 i5) h)
theorem run0_zz66 (N : Nat) (x : (S_zz66).a.den) : runF (A_zz66) N Try.f27 S_zz66 x = (zz66_s (zz66_R2 N N (zz66_K2 N)) x.1 x.2.1) := by kernel_rfl
theorem run_zz66 (N : Nat) (x : (S_zz66).a.den) : runF (A_zz66) N Try.f27 S_zz66 x = zz66 N x.1 x.2.1 := by
  refine (run0_zz66 N x).trans ?_
  rw [(funext fun a0 => (funext fun k1 => (funext fun i5 => zz66_in2 N a0 k1 i5)))]
  rfl
theorem fn_zz66 : FnOk Try.prog 27 := ⟨_, Try.func27, by kernel_rfl, by kernel_rfl⟩
theorem good_zz66 : Gx.Good Try.prog 27 S_zz66 := good_of_run Try.func27 (of_decide_eq_true (by kernel_rfl)) fun x r h => ⟨A_zz66, big, mkCfg_ok tabOk, mkCfg_sigs (show SigsOk Try.prog [(22, S_zz65)] from ⟨⟨fn_zz65, good_zz65⟩, trivial⟩), (run_zz66 big x).trans h⟩

/-! zz67 -/
def zz67 (a_0 : Y2) (k_1 : Int) : Option (Int × (Y2 × Unit)) := (zz66 big a_0.1 k_1).bind fun r => some (r.1, ((r.2.1, ()), ()))
def S_zz67 : Sig := { a := (.pair (.pair (.sl (.sl I)) .unit) (.pair I .unit)), md := [1, 0], mf := [(.p (.o (.o .i)) .i)], m := (.pair (.pair (.sl (.sl I)) .unit) .unit), r := I, rf := .i, f := fun x => zz67 x.1 x.2.1 }
theorem fn_zz67 : FnOk Try.prog 21 := ⟨_, Try.func21, by kernel_rfl, by kernel_rfl⟩
theorem good_zz67 : Gx.Good Try.prog 21 S_zz67   := good_bx1 (A := mkCfg tab [] []) (T := 29) (TS := 22) (mkCfg_ok tabOk) Try.func21 (by kernel_rfl) (by kernel_rfl) fn_zz66 (by kernel_rfl) (by kernel_rfl) good_zz66

/-! zz68 -/
def zz68_b2 (rec : Y4 → Int → Int → Option (Int × Unit)) (k : Int → Option (Int × Unit)) (a0 : Y4) (k1 : Int) (i5 : Int) : Option (Int × Unit) :=
  cond (decide (i5 < (a0.length : Int)))
  ((atI a0 i5).bind fun xq1 =>
  cond (decide (xq1 ≠ k1))
  (some ((-1 : Int), (())))
  (rec a0 (IntKind.i64.wrap (k1 + (1 : Int))) (IntKind.i64.wrap (i5 + (1 : Int)))))
  (k k1)
def zz68_a2 (k1 : Int) : Option (Int × Unit) :=
  some (k1, (()))
def zz68_s (L2 : Y4 → Int → Int → Option (Int × Unit)) (a_0 : Y4) (k_1 : Int) : Option (Int × Unit) :=
  L2 a_0 k_1 (0 : Int)
def zz68_l2 (N : Nat) (k : Int → Option (Int × Unit)) : Nat → Y4 → Int → Int → Option (Int × Unit)
  | 0, _, _, _ => none
  | m + 1, a0, k1, i5 => zz68_b2 (zz68_l2 N k m) k a0 k1 i5
def zz68_F2 (N : Nat) (a0 : Y4) (k1 : Int) (i5 : Int) : Option (Int × Unit) := zz68_l2 N (zz68_a2) N a0 k1 i5
def zz68 (N : Nat) (a_0 : Y4) (k_1 : Int) : Option (Int × Unit) := zz68_s (zz68_F2 N) a_0 k_1
def S_zz68 : Sig := { a := (.pair (.sl I) (.pair I .unit)), md := [0, 0], mf := [], m := .unit, r := I, rf := .i, f := fun x => zz68 big x.1 x.2.1 }
def A_zz68 : Cfg := mkCfg tab [] [(4, [.as (.sl I) .i, .as I .i, .drop, .drop, .drop, .as I .i]), (15, [.drop, .as I .i])]
noncomputable def zz68_R2 (N n : Nat) (K : Ex → St → Option (Int × Unit)) (a0 : Y4) (k1 : Int) (i5 : Int) : Option (Int × Unit) := iter ((A_zz68).shape 4) (run (A_zz68) N (codeAt Try.f23 [1, 0, 1, 0, 0])) n ([.val (.sl I) .i a0, .val I .i k1, .u, .u, .u, .val I .i i5] ++ List.replicate 15 .u) K
noncomputable abbrev zz68_z : Ex → St → Option (Int × Unit) := finish (A_zz68) S_zz68 Try.f23.results.toList
noncomputable abbrev zz68_X2 (kX : St → Option (Int × Unit)) : Int → Option (Int × Unit) := fun (k1 : Int) => kX ([.u, .val I .i k1] ++ List.replicate 19 .u)
noncomputable abbrev zz68_E2 (kX : St → Option (Int × Unit)) (kO : Nat → St → Option (Int × Unit)) : Ex → St → Option (Int × Unit) := exK zz68_z 0 ((A_zz68).shape 15) kX kO
theorem zz68_step2 (N : Nat) (m : Nat) (kX : St → Option (Int × Unit)) (kO : Nat → St → Option (Int × Unit)) (a0 : Y4) (k1 : Int) (i5 : Int) : zz68_R2 N (m + 1) (zz68_E2 kX kO) a0 k1 i5 = zz68_b2 (zz68_R2 N m (zz68_E2 kX kO)) (zz68_X2 kX) a0 k1 i5 := by kernel_rfl
theorem zz68_iter2 (N : Nat) (kX : St → Option (Int × Unit)) (kO : Nat → St → Option (Int × Unit)) : ∀ (n : Nat) (a0 : Y4) (k1 : Int) (i5 : Int), zz68_R2 N n (zz68_E2 kX kO) a0 k1 i5 = zz68_l2 N (zz68_X2 kX) n a0 k1 i5
  | 0, _, _, _ => rfl
  | m + 1, a0, k1, i5 => by
    have hrec : zz68_R2 N m (zz68_E2 kX kO) = (zz68_l2 N (zz68_X2 kX) m) := (funext fun a0 => (funext fun k1 => (funext fun i5 => zz68_iter2 N kX kO m a0 k1 i5)))
    refine (zz68_step2 N m kX kO a0 k1 i5).trans ?_
    rw [hrec]
    rfl
noncomputable abbrev zz68_K2 (N : Nat) : Ex → St → Option (Int × Unit) := (blockK 0 (seqK ((A_zz68).shape 15) (run (A_zz68) N (codeAt Try.f23 [1, 1])) zz68_z))
noncomputable abbrev zz68_k2 (N : Nat) : St → Option (Int × Unit) := fun st' => run (A_zz68) N (codeAt Try.f23 [1, 1]) st' zz68_z
theorem zz68_after2 (N : Nat) (k1 : Int) : zz68_X2 (zz68_k2 N) k1 = zz68_a2 k1 := by kernel_rfl
theorem zz68_in2 (N : Nat) (a0 : Y4) (k1 : Int) (i5 : Int) : zz68_R2 N N (zz68_K2 N) a0 k1 i5 = zz68_F2 N a0 k1 i5 :=
  have h : zz68_X2 (zz68_k2 N) = (zz68_a2) := (funext fun k1 => zz68_after2 N k1)
  ((iter_ex (fun st => by kernel_rfl) (fun st => by kernel_rfl)).trans (zz68_iter2 N (zz68_k2 N) (fun j st => (zz68_K2 N) (.exit j) st) N a0 k1 i5)).trans (congrArg (fun k => zz68_l2 N k N a0 k1 i5) h)
theorem run0_zz68 (N : Nat) (x : (S_zz68).a.den) : runF (A_zz68) N Try.f23 S_zz68 x = (zz68_s (zz68_R2 N N (zz68_K2 N)) x.1 x.2.1) := by kernel_rfl
theorem run_zz68 (N : Nat) (x : (S_zz68).a.den) : runF (A_zz68) N Try.f23 S_zz68 x = zz68 N x.1 x.2.1 := by
  refine (run0_zz68 N x).trans ?_
  rw [(funext fun a0 => (funext fun k1 => (funext fun i5 => zz68_in2 N a0 k1 i5)))]
  rfl
theorem fn_zz68 : FnOk Try.prog 23 := ⟨_, Try.func23, by kernel_rfl, by kernel_rfl⟩
theorem good_zz68 : Gx.Good Try.prog 23 S_zz68 := good_of_run Try.func23 (of_decide_eq_true (by kernel_rfl)) fun x r h => ⟨A_zz68, big, mkCfg_ok tabOk, mkCfg_sigs (show SigsOk Try.prog [] from trivial), (run_zz68 big x).trans h⟩

/-! laws_FnExactBooleanMapOf -/
def laws_FnExactBooleanMapOf_s (aP_0 : Y2) (aQ_1 : Y2) (aG_2 : Y4) : Option (Bool × Unit) :=
  cond (decide ((1048576 : Int) < (aG_2.length : Int)))
  (some (true, (())))
  ((zz2 aP_0 (1048576 : Int)).bind fun rq1 =>
  cond (decide (rq1.1 < (0 : Int)))
  (some (true, (())))
  ((zz2 aQ_1 rq1.1).bind fun rq2 =>
  cond (decide (rq2.1 < (0 : Int)))
  (some (true, (())))
  ((zz5 aP_0).bind fun rq3 =>
  (zz5 aQ_1).bind fun rq4 =>
  (zz3 big aG_2).bind fun rq5 =>
  (zz28 big rq3.1 rq4.1 rq5.1).bind fun rq6 =>
  (zz5 aP_0).bind fun rq7 =>
  (zz5 aQ_1).bind fun rq8 =>
  (zz3 big aG_2).bind fun rq9 =>
  (zz61 big rq7.1 rq8.1 rq9.1).bind fun rq10 =>
  (zz62 big rq10.1.1 rq6.1.1).bind fun rq11 =>
  cond (!rq11.1)
  (some (false, (())))
  (cond (((((), rq10.1.2).2).1) != rq6.1.2.1)
  (some (false, (())))
  ((zz5 aP_0).bind fun rq12 =>
  (zz64 rq7.1 rq12.1).bind fun rq13 =>
  cond (!rq13.1)
  (some (false, (())))
  ((zz5 aQ_1).bind fun rq14 =>
  (zz64 rq8.1 rq14.1).bind fun rq15 =>
  cond (!rq15.1)
  (some (false, (())))
  ((zz3 big aG_2).bind fun rq16 =>
  (zz62 big rq9.1 rq16.1).bind fun rq17 =>
  cond (!rq17.1)
  (some (false, (())))
  ((zz67 rq7.1 (1 : Int)).bind fun rq18 =>
  (zz67 rq8.1 rq18.1).bind fun rq19 =>
  (zz65 big rq9.1 rq19.1).bind fun rq20 =>
  cond (decide (rq20.1 < (0 : Int)))
  (some (false, (())))
  ((zz62 big rq10.1.1 rq6.1.1).bind fun rq21 =>
  cond (!rq21.1)
  (some (false, (())))
  (cond (((((), rq10.1.2).2).1) != rq6.1.2.1)
  (some (false, (())))
  ((zz65 big rq10.1.1 (1 : Int)).bind fun rq22 =>
  (zz68 big rq22.2.1 (1 : Int)).bind fun rq23 =>
  cond (decide (rq23.1 < (0 : Int)))
  (some (false, (())))
  (cond (decide (rq23.1 ≠ rq22.1))
  (some (false, (())))
  ((zz5 aP_0).bind fun rq24 =>
  (zz5 aQ_1).bind fun rq25 =>
  (zz3 big aG_2).bind fun rq26 =>
  (zz61 big rq24.1 rq25.1 rq26.1).bind fun rq27 =>
  (zz62 big rq27.1.1 rq6.1.1).bind fun rq28 =>
  cond (!rq28.1)
  (some (false, (())))
  (cond (rq27.1.2.1 != rq6.1.2.1)
  (some (false, (())))
  ((zz68 big rq22.2.1 (1 : Int)).bind fun rq29 =>
  cond (decide (rq29.1 < (0 : Int)))
  (some (false, (())))
  (cond (decide (rq29.1 ≠ rq22.1))
  (some (false, (())))
  (some (true, (())))))))))))))))))))
def laws_FnExactBooleanMapOf (aP_0 : Y2) (aQ_1 : Y2) (aG_2 : Y4) : Option (Bool × Unit) := laws_FnExactBooleanMapOf_s aP_0 aQ_1 aG_2
def S_laws_FnExactBooleanMapOf : Sig := { a := (.pair (.pair (.sl (.sl I)) .unit) (.pair (.pair (.sl (.sl I)) .unit) (.pair (.sl I) .unit))), md := [0, 0, 0], mf := [], m := .unit, r := .bool, rf := .i, f := fun x => laws_FnExactBooleanMapOf x.1 x.2.1 x.2.2.1 }
def A_laws_FnExactBooleanMapOf : Cfg := mkCfg tab [(15, S_zz2), (17, S_zz5), (43, S_zz3), (47, S_zz28), (48, S_zz61), (19, S_zz62), (20, S_zz64), (21, S_zz67), (22, S_zz65), (23, S_zz68)] []
theorem run_laws_FnExactBooleanMapOf (N : Nat) (x : (S_laws_FnExactBooleanMapOf).a.den) : runF (A_laws_FnExactBooleanMapOf) N Try.f12 S_laws_FnExactBooleanMapOf x = laws_FnExactBooleanMapOf x.1 x.2.1 x.2.2.1 := by kernel_rfl
theorem fn_laws_FnExactBooleanMapOf : FnOk Try.prog 12 := ⟨_, Try.func12, by kernel_rfl, by kernel_rfl⟩
theorem good_laws_FnExactBooleanMapOf : Gx.Good Try.prog 12 S_laws_FnExactBooleanMapOf := good_of_run Try.func12 (of_decide_eq_true (by kernel_rfl)) fun x r h => ⟨A_laws_FnExactBooleanMapOf, big, mkCfg_ok tabOk, mkCfg_sigs (show SigsOk Try.prog [(15, S_zz2), (17, S_zz5), (43, S_zz3), (47, S_zz28), (48, S_zz61), (19, S_zz62), (20, S_zz64), (21, S_zz67), (22, S_zz65), (23, S_zz68)] from ⟨⟨fn_zz2, good_zz2⟩, ⟨fn_zz5, good_zz5⟩, ⟨fn_zz3, good_zz3⟩, ⟨fn_zz28, good_zz28⟩, ⟨fn_zz61, good_zz61⟩, ⟨fn_zz62, good_zz62⟩, ⟨fn_zz64, good_zz64⟩, ⟨fn_zz67, good_zz67⟩, ⟨fn_zz65, good_zz65⟩, ⟨fn_zz68, good_zz68⟩, trivial⟩), (run_laws_FnExactBooleanMapOf big x).trans h⟩

/-! zz69 -/
def zz69_b7 (rec : Y4 → Y2 → Y2 → Int → Int → Option (Bool × Unit)) (k : Y4 → Y2 → Y2 → Int → Option (Bool × Unit)) (f2 : Y4) (p3 : Y2) (q4 : Y2) (x7 : Int) (y8 : Int) : Option (Bool × Unit) :=
  cond (decide (y8 < x7))
  ((zz16 p3 x7 y8).bind fun rq8 =>
  (atI f2 rq8.1).bind fun xq9 =>
  (atI f2 x7).bind fun xq10 =>
  (atI f2 y8).bind fun xq11 =>
  (zz16 q4 xq10 xq11).bind fun rq12 =>
  cond (decide (xq9 ≠ rq12.1))
  (some (false, (())))
  ((zz15 p3 x7 y8).bind fun rq13 =>
  (atI f2 rq13.1).bind fun xq14 =>
  (atI f2 x7).bind fun xq15 =>
  (atI f2 y8).bind fun xq16 =>
  (zz15 q4 xq15 xq16).bind fun rq17 =>
  cond (decide (xq14 ≠ rq17.1))
  (some (false, (())))
  (rec f2 p3 q4 x7 (IntKind.i64.wrap (y8 + (1 : Int))))))
  (k f2 p3 q4 x7)
def zz69_a7 (rec : Y4 → Y2 → Y2 → Int → Option (Bool × Unit)) (f2 : Y4) (p3 : Y2) (q4 : Y2) (x7 : Int) : Option (Bool × Unit) :=
  rec f2 p3 q4 (IntKind.i64.wrap (x7 + (1 : Int)))
def zz69_b4 (L7 : Y4 → Y2 → Y2 → Int → Int → Option (Bool × Unit)) (k : Option (Bool × Unit)) (f2 : Y4) (p3 : Y2) (q4 : Y2) (x7 : Int) : Option (Bool × Unit) :=
  cond (decide (x7 < (f2.length : Int)))
  (L7 f2 p3 q4 x7 (0 : Int))
  (k)
def zz69_a4 : Option (Bool × Unit) :=
  some (true, (()))
def zz69_s (L4 : Y4 → Y2 → Y2 → Int → Option (Bool × Unit)) (p_0 : Y2) (q_1 : Y2) (f_2 : Y4) : Option (Bool × Unit) :=
  cond (decide ((f_2.length : Int) ≠ (p_0.1.length : Int)))
  (some (false, (())))
  ((zz27 big (q_1.1.length : Int) f_2).bind fun rq1 =>
  cond (!rq1.1)
  (some (false, (())))
  ((zz19 p_0).bind fun rq2 =>
  (atI f_2 rq2.1).bind fun xq3 =>
  (zz19 q_1).bind fun rq4 =>
  cond (decide (xq3 ≠ rq4.1))
  (some (false, (())))
  ((zz20 p_0).bind fun rq5 =>
  (atI f_2 rq5.1).bind fun xq6 =>
  (zz20 q_1).bind fun rq7 =>
  cond (decide (xq6 ≠ rq7.1))
  (some (false, (())))
  (L4 f_2 p_0 q_1 (0 : Int)))))
def zz69_l7 (N : Nat) (k : Y4 → Y2 → Y2 → Int → Option (Bool × Unit)) : Nat → Y4 → Y2 → Y2 → Int → Int → Option (Bool × Unit)
  | 0, _, _, _, _, _ => none
  | m + 1, f2, p3, q4, x7, y8 => zz69_b7 (zz69_l7 N k m) k f2 p3 q4 x7 y8
def zz69_F7 (N : Nat) (rec : Y4 → Y2 → Y2 → Int → Option (Bool × Unit)) (k : Option (Bool × Unit)) (f2 : Y4) (p3 : Y2) (q4 : Y2) (x7 : Int) (y8 : Int) : Option (Bool × Unit) := zz69_l7 N (zz69_a7 rec) N f2 p3 q4 x7 y8
def zz69_l4 (N : Nat) (k : Option (Bool × Unit)) : Nat → Y4 → Y2 → Y2 → Int → Option (Bool × Unit)
  | 0, _, _, _, _ => none
  | m + 1, f2, p3, q4, x7 => zz69_b4 (zz69_F7 N (zz69_l4 N k m) k) k f2 p3 q4 x7
def zz69_F4 (N : Nat) (f2 : Y4) (p3 : Y2) (q4 : Y2) (x7 : Int) : Option (Bool × Unit) := zz69_l4 N (zz69_a4) N f2 p3 q4 x7
def zz69 (N : Nat) (p_0 : Y2) (q_1 : Y2) (f_2 : Y4) : Option (Bool × Unit) := zz69_s (zz69_F4 N) p_0 q_1 f_2
def S_zz69 : Sig := { a := (.pair (.pair (.sl (.sl I)) .unit) (.pair (.pair (.sl (.sl I)) .unit) (.pair (.sl I) .unit))), md := [0, 0, 0], mf := [], m := .unit, r := .bool, rf := .i, f := fun x => zz69 big x.1 x.2.1 x.2.2.1 }
def A_zz69 : Cfg := mkCfg tab [(99, S_zz27), (59, S_zz19), (60, S_zz20), (76, S_zz16), (77, S_zz15)] [(8, [.drop, .drop, .as (.sl I) .i, .as (.ptr (.pair (.sl (.sl I)) .unit)) (.o .i), .as (.ptr (.pair (.sl (.sl I)) .unit)) (.o .i), .drop, .drop, .as I .i]), (14, [.drop, .drop, .as (.sl I) .i, .as (.ptr (.pair (.sl (.sl I)) .unit)) (.o .i), .as (.ptr (.pair (.sl (.sl I)) .unit)) (.o .i), .drop, .drop, .as I .i, .as I .i]), (23, []), (11, [.drop, .drop, .as (.sl I) .i, .as (.ptr (.pair (.sl (.sl I)) .unit)) (.o .i), .as (.ptr (.pair (.sl (.sl I)) .unit)) (.o .i), .drop, .drop, .as I .i])]
noncomputable def zz69_R4 (N n : Nat) (K : Ex → St → Option (Bool × Unit)) (f2 : Y4) (p3 : Y2) (q4 : Y2) (x7 : Int) : Option (Bool × Unit) := iter ((A_zz69).shape 8) (run (A_zz69) N (codeAt Try.f103 [1, 1, 0, 1, 0, 0])) n ([.u, .u, .val (.sl I) .i f2, .val (.ptr (.pair (.sl (.sl I)) .unit)) (.o .i) p3, .val (.ptr (.pair (.sl (.sl I)) .unit)) (.o .i) q4, .u, .u, .val I .i x7] ++ List.replicate 84 .u) K
noncomputable def zz69_R7 (N n : Nat) (K : Ex → St → Option (Bool × Unit)) (f2 : Y4) (p3 : Y2) (q4 : Y2) (x7 : Int) (y8 : Int) : Option (Bool × Unit) := iter ((A_zz69).shape 14) (run (A_zz69) N (codeAt Try.f103 [1, 1, 0, 1, 0, 0, 1, 0, 0, 1, 0, 0])) n ([.u, .u, .val (.sl I) .i f2, .val (.ptr (.pair (.sl (.sl I)) .unit)) (.o .i) p3, .val (.ptr (.pair (.sl (.sl I)) .unit)) (.o .i) q4, .u, .u, .val I .i x7, .val I .i y8] ++ List.replicate 83 .u) K
noncomputable abbrev zz69_z : Ex → St → Option (Bool × Unit) := finish (A_zz69) S_zz69 Try.f103.results.toList
noncomputable abbrev zz69_X4 (kX : St → Option (Bool × Unit)) : Option (Bool × Unit) := kX ([] ++ List.replicate 92 .u)
noncomputable abbrev zz69_E4 (kX : St → Option (Bool × Unit)) (kO : Nat → St → Option (Bool × Unit)) : Ex → St → Option (Bool × Unit) := exK zz69_z 0 ((A_zz69).shape 23) kX kO
noncomputable abbrev zz69_X7 (kX : St → Option (Bool × Unit)) : Y4 → Y2 → Y2 → Int → Option (Bool × Unit) := fun (f2 : Y4) (p3 : Y2) (q4 : Y2) (x7 : Int) => kX ([.u, .u, .val (.sl I) .i f2, .val (.ptr (.pair (.sl (.sl I)) .unit)) (.o .i) p3, .val (.ptr (.pair (.sl (.sl I)) .unit)) (.o .i) q4, .u, .u, .val I .i x7] ++ List.replicate 84 .u)
noncomputable abbrev zz69_E7 (kX : St → Option (Bool × Unit)) (kO : Nat → St → Option (Bool × Unit)) : Ex → St → Option (Bool × Unit) := exK zz69_z 2 ((A_zz69).shape 11) kX kO
theorem zz69_step7 (N : Nat) (m : Nat) (kX : St → Option (Bool × Unit)) (kO : Nat → St → Option (Bool × Unit)) (f2 : Y4) (p3 : Y2) (q4 : Y2) (x7 : Int) (y8 : Int) : zz69_R7 N (m + 1) (zz69_E7 kX kO) f2 p3 q4 x7 y8 = zz69_b7 (zz69_R7 N m (zz69_E7 kX kO)) (zz69_X7 kX) f2 p3 q4 x7 y8 := by kernel_rfl
theorem zz69_iter7 (N : Nat) (kX : St → Option (Bool × Unit)) (kO : Nat → St → Option (Bool × Unit)) : ∀ (n : Nat) (f2 : Y4) (p3 : Y2) (q4 : Y2) (x7 : Int) (y8 : Int), zz69_R7 N n (zz69_E7 kX kO) f2 p3 q4 x7 y8 = zz69_l7 N (zz69_X7 kX) n f2 p3 q4 x7 y8
  | 0, _, _, _, _, _ => rfl
  | m + 1, f2, p3, q4, x7, y8 => by
    have hrec : zz69_R7 N m (zz69_E7 kX kO) = (zz69_l7 N (zz69_X7 kX) m) := (funext fun f2 => (funext fun p3 => (funext fun q4 => (funext fun x7 => (funext fun y8 => zz69_iter7 N kX kO m f2 p3 q4 x7 y8)))))
    refine (zz69_step7 N m kX kO f2 p3 q4 x7 y8).trans ?_
    rw [hrec]
    rfl
noncomputable abbrev zz69_K7 (N : Nat) (m : Nat) (kX : St → Option (Bool × Unit)) (kO : Nat → St → Option (Bool × Unit)) : Ex → St → Option (Bool × Unit) := (blockK 2 (blockK 1 (seqK ((A_zz69).shape 11) (run (A_zz69) N (codeAt Try.f103 [1, 1, 0, 1, 0, 0, 1, 1])) (iterK ((A_zz69).shape 8) (run (A_zz69) N (codeAt Try.f103 [1, 1, 0, 1, 0, 0])) m (zz69_E4 kX kO)))))
noncomputable abbrev zz69_k7 (N : Nat) (m : Nat) (kX : St → Option (Bool × Unit)) (kO : Nat → St → Option (Bool × Unit)) : St → Option (Bool × Unit) := fun st' => run (A_zz69) N (codeAt Try.f103 [1, 1, 0, 1, 0, 0, 1, 1]) st' (iterK ((A_zz69).shape 8) (run (A_zz69) N (codeAt Try.f103 [1, 1, 0, 1, 0, 0])) m (zz69_E4 kX kO))
theorem zz69_after7 (N : Nat) (m : Nat) (kX : St → Option (Bool × Unit)) (kO : Nat → St → Option (Bool × Unit)) (f2 : Y4) (p3 : Y2) (q4 : Y2) (x7 : Int) : zz69_X7 (zz69_k7 N m kX kO) f2 p3 q4 x7 = zz69_a7 (zz69_R4 N m (zz69_E4 kX kO)) f2 p3 q4 x7 := by kernel_rfl
theorem zz69_in7 (N : Nat) (m : Nat) (kX : St → Option (Bool × Unit)) (kO : Nat → St → Option (Bool × Unit)) (recF : Y4 → Y2 → Y2 → Int → Option (Bool × Unit)) (hrec : zz69_R4 N m (zz69_E4 kX kO) = recF) (f2 : Y4) (p3 : Y2) (q4 : Y2) (x7 : Int) (y8 : Int) : zz69_R7 N N (zz69_K7 N m kX kO) f2 p3 q4 x7 y8 = zz69_F7 N recF (zz69_X4 kX) f2 p3 q4 x7 y8 :=
  have h : zz69_X7 (zz69_k7 N m kX kO) = (zz69_a7 recF) := (funext fun f2 => (funext fun p3 => (funext fun q4 => (funext fun x7 => (zz69_after7 N m kX kO f2 p3 q4 x7).trans (by rw [hrec])))))
  ((iter_ex (fun st => by kernel_rfl) (fun st => by kernel_rfl)).trans (zz69_iter7 N (zz69_k7 N m kX kO) (fun j st => (zz69_K7 N m kX kO) (.exit j) st) N f2 p3 q4 x7 y8)).trans (congrArg (fun k => zz69_l7 N k N f2 p3 q4 x7 y8) h)
theorem zz69_step4 (N : Nat) (m : Nat) (kX : St → Option (Bool × Unit)) (kO : Nat → St → Option (Bool × Unit)) (f2 : Y4) (p3 : Y2) (q4 : Y2) (x7 : Int) : zz69_R4 N (m + 1) (zz69_E4 kX kO) f2 p3 q4 x7 = zz69_b4 (zz69_R7 N N (zz69_K7 N m kX kO)) (zz69_X4 kX) f2 p3 q4 x7 := by kernel_rfl
theorem zz69_iter4 (N : Nat) (kX : St → Option (Bool × Unit)) (kO : Nat → St → Option (Bool × Unit)) : ∀ (n : Nat) (f2 : Y4) (p3 : Y2) (q4 : Y2) (x7 : Int), zz69_R4 N n (zz69_E4 kX kO) f2 p3 q4 x7 = zz69_l4 N (zz69_X4 kX) n f2 p3 q4 x7
  | 0, _, _, _, _ => rfl
  | m + 1, f2, p3, q4, x7 => by
    have hrec : zz69_R4 N m (zz69_E4 kX kO) = (zz69_l4 N (zz69_X4 kX) m) := (funext fun f2 => (funext fun p3 => (funext fun q4 => (funext fun x7 => zz69_iter4 N kX kO m f2 p3 q4 x7))))
    refine (zz69_step4 N m kX kO f2 p3 q4 x7).trans ?_
    rw [(funext fun f2 => (funext fun p3 => (funext fun q4 => (funext fun x7 => (funext fun y8 => zz69_in7 N m kX kO (zz69_l4 N (zz69_X4 kX) m) hrec f2 p3 q4 x7 y8)))))]
    rfl
noncomputable abbrev zz69_K4 (N : Nat) : Ex → St → Option (Bool × Unit) := (blockK 0 (seqK ((A_zz69).shape 23) (run (A_zz69) N (codeAt Try.f103 [1, 1, 1])) zz69_z))
noncomputable abbrev zz69_k4 (N : Nat) : St → Option (Bool × Unit) := fun st' => run (A_zz69) N (codeAt Try.f103 [1, 1, 1]) st' zz69_z
theorem zz69_after4 (N : Nat) : zz69_X4 (zz69_k4 N) = zz69_a4 := by kernel_rfl
theorem zz69_in4 (N : Nat) (f2 : Y4) (p3 : Y2) (q4 : Y2) (x7 : Int) : zz69_R4 N N (zz69_K4 N) f2 p3 q4 x7 = zz69_F4 N f2 p3 q4 x7 :=
  have h : zz69_X4 (zz69_k4 N) = (zz69_a4) := zz69_after4 N
  ((iter_ex (fun st => by kernel_rfl) (fun st => by kernel_rfl)).trans (zz69_iter4 N (zz69_k4 N) (fun j st => (zz69_K4 N) (.exit j) st) N f2 p3 q4 x7)).trans (congrArg (fun k => zz69_l4 N k N f2 p3 q4 x7) h)
theorem run0_zz69 (N : Nat) (x : (S_zz69).a.den) : runF (A_zz69) N Try.f103 S_zz69 x = (zz69_s (zz69_R4 N N (zz69_K4 N)) x.1 x.2.1 x.2.2.1) := by kernel_rfl
theorem run_zz69 (N : Nat) (x : (S_zz69).a.den) : runF (A_zz69) N Try.f103 S_zz69 x = zz69 N x.1 x.2.1 x.2.2.1 := by
  refine (run0_zz69 N x).trans ?_
  rw [(funext fun f2 => (funext fun p3 => (funext fun q4 => (funext fun x7 => zz69_in4 N f2 p3 q4 x7))))]
  rfl
theorem fn_zz69 : FnOk Try.prog 103 := ⟨_, Try.func103, by kernel_rfl, by kernel_rfl⟩
theorem good_zz69 : Gx.Good Try.prog 103 S_zz69 := good_of_run Try.func103 (of_decide_eq_true (by kernel_rfl)) fun x r h => ⟨A_zz69, big, mkCfg_ok tabOk, mkCfg_sigs (show SigsOk Try.prog [(99, S_zz27), (59, S_zz19), (60, S_zz20), (76, S_zz16), (77, S_zz15)] from ⟨⟨fn_zz27, good_zz27⟩, ⟨fn_zz19, good_zz19⟩, ⟨fn_zz20, good_zz20⟩, ⟨fn_zz16, good_zz16⟩, ⟨fn_zz15, good_zz15⟩, trivial⟩), (run_zz69 big x).trans h⟩

/-! zz70 -/
def zz70_b9 (rec : Y4 → Y2 → Y4 → Y4 → Y4 → Int → Int → Option ((Y4 × (Bool × Unit)) × Unit)) (k : Y4 → Y2 → Y4 → Y4 → Y4 → Int → Int → Option ((Y4 × (Bool × Unit)) × Unit)) (f2 : Y4) (q4 : Y2) (out8 : Y4) (from9 : Y4) (to10 : Y4) (i11 : Int) (k12 : Int) : Option ((Y4 × (Bool × Unit)) × Unit) :=
  (atI from9 i11).bind fun _ =>
  (from9[i11.toNat]?).bind fun xq6 =>
  (atI to10 k12).bind fun _ =>
  (to10[k12.toNat]?).bind fun xq7 =>
  (atI f2 xq7).bind fun xq8 =>
  (zz11 q4 xq6 xq8).bind fun rq9 =>
  cond (!rq9.1)
  (rec f2 q4 out8 from9 to10 i11 (IntKind.i64.wrap (k12 + (1 : Int))))
  (k f2 q4 out8 from9 to10 i11 k12)
def zz70_a9 (rec : Y4 → Y2 → Y4 → Y4 → Y4 → Int → Option ((Y4 × (Bool × Unit)) × Unit)) (f2 : Y4) (q4 : Y2) (out8 : Y4) (from9 : Y4) (to10 : Y4) (i11 : Int) (k12 : Int) : Option ((Y4 × (Bool × Unit)) × Unit) :=
  (appI out8 [k12]).bind fun xq10 =>
  rec f2 q4 xq10 from9 to10 (IntKind.i64.wrap (i11 + (1 : Int)))
def zz70_b6 (L9 : Y4 → Y2 → Y4 → Y4 → Y4 → Int → Int → Option ((Y4 × (Bool × Unit)) × Unit)) (k : Y4 → Option ((Y4 × (Bool × Unit)) × Unit)) (f2 : Y4) (q4 : Y2) (out8 : Y4) (from9 : Y4) (to10 : Y4) (i11 : Int) : Option ((Y4 × (Bool × Unit)) × Unit) :=
  cond (decide (i11 < (from9.length : Int)))
  (L9 f2 q4 out8 from9 to10 i11 (0 : Int))
  (k out8)
def zz70_a6 (out8 : Y4) : Option ((Y4 × (Bool × Unit)) × Unit) :=
  some ((out8, true, ()), (()))
def zz70_s (L6 : Y4 → Y2 → Y4 → Y4 → Y4 → Int → Option ((Y4 × (Bool × Unit)) × Unit)) (p_0 : Y2) (q_1 : Y2) (f_2 : Y4) : Option ((Y4 × (Bool × Unit)) × Unit) :=
  (zz23 p_0).bind fun rq1 =>
  cond (!rq1.1)
  (some (([], false, ()), (())))
  ((zz23 q_1).bind fun rq2 =>
  cond (!rq2.1)
  (some (([], false, ()), (())))
  ((zz69 big p_0 q_1 f_2).bind fun rq3 =>
  cond (!rq3.1)
  (some (([], false, ()), (())))
  ((zz26 big q_1).bind fun rq4 =>
  (zz26 big p_0).bind fun rq5 =>
  L6 f_2 q_1 [] rq4.1 rq5.1 (0 : Int))))
def zz70_l9 (N : Nat) (k : Y4 → Y2 → Y4 → Y4 → Y4 → Int → Int → Option ((Y4 × (Bool × Unit)) × Unit)) : Nat → Y4 → Y2 → Y4 → Y4 → Y4 → Int → Int → Option ((Y4 × (Bool × Unit)) × Unit)
  | 0, _, _, _, _, _, _, _ => none
  | m + 1, f2, q4, out8, from9, to10, i11, k12 => zz70_b9 (zz70_l9 N k m) k f2 q4 out8 from9 to10 i11 k12
def zz70_F9 (N : Nat) (rec : Y4 → Y2 → Y4 → Y4 → Y4 → Int → Option ((Y4 × (Bool × Unit)) × Unit)) (k : Y4 → Option ((Y4 × (Bool × Unit)) × Unit)) (f2 : Y4) (q4 : Y2) (out8 : Y4) (from9 : Y4) (to10 : Y4) (i11 : Int) (k12 : Int) : Option ((Y4 × (Bool × Unit)) × Unit) := zz70_l9 N (zz70_a9 rec) N f2 q4 out8 from9 to10 i11 k12
def zz70_l6 (N : Nat) (k : Y4 → Option ((Y4 × (Bool × Unit)) × Unit)) : Nat → Y4 → Y2 → Y4 → Y4 → Y4 → Int → Option ((Y4 × (Bool × Unit)) × Unit)
  | 0, _, _, _, _, _, _ => none
  | m + 1, f2, q4, out8, from9, to10, i11 => zz70_b6 (zz70_F9 N (zz70_l6 N k m) k) k f2 q4 out8 from9 to10 i11
def zz70_F6 (N : Nat) (f2 : Y4) (q4 : Y2) (out8 : Y4) (from9 : Y4) (to10 : Y4) (i11 : Int) : Option ((Y4 × (Bool × Unit)) × Unit) := zz70_l6 N (zz70_a6) N f2 q4 out8 from9 to10 i11
def zz70 (N : Nat) (p_0 : Y2) (q_1 : Y2) (f_2 : Y4) : Option ((Y4 × (Bool × Unit)) × Unit) := zz70_s (zz70_F6 N) p_0 q_1 f_2
def S_zz70 : Sig := { a := (.pair (.pair (.sl (.sl I)) .unit) (.pair (.pair (.sl (.sl I)) .unit) (.pair (.sl I) .unit))), md := [0, 0, 0], mf := [], m := .unit, r := (.tup (.pair (.sl I) (.pair .bool .unit))), rf := (.p (.o .i) .i), f := fun x => zz70 big x.1 x.2.1 x.2.2.1 }
def A_zz70 : Cfg := mkCfg tab [(85, S_zz23), (103, S_zz69), (95, S_zz26), (96, S_zz11)] [(12, [.drop, .drop, .as (.sl I) .i, .drop, .as (.ptr (.pair (.sl (.sl I)) .unit)) (.o .i), .drop, .drop, .drop, .as (.sl I) (.o .i), .as (.sl I) (.o .i), .as (.sl I) (.o .i), .as I .i]), (18, [.drop, .drop, .as (.sl I) .i, .drop, .as (.ptr (.pair (.sl (.sl I)) .unit)) (.o .i), .drop, .drop, .drop, .as (.sl I) (.o .i), .as (.sl I) (.o .i), .as (.sl I) (.o .i), .as I .i, .as I .i]), (25, [.drop, .drop, .drop, .drop, .drop, .drop, .drop, .drop, .as (.sl I) (.o .i)]), (23, [.drop, .drop, .as (.sl I) .i, .drop, .as (.ptr (.pair (.sl (.sl I)) .unit)) (.o .i), .drop, .drop, .drop, .as (.sl I) (.o .i), .as (.sl I) (.o .i), .as (.sl I) (.o .i), .as I .i, .as I .i])]
noncomputable def zz70_R6 (N n : Nat) (K : Ex → St → Option ((Y4 × (Bool × Unit)) × Unit)) (f2 : Y4) (q4 : Y2) (out8 : Y4) (from9 : Y4) (to10 : Y4) (i11 : Int) : Option ((Y4 × (Bool × Unit)) × Unit) := iter ((A_zz70).shape 12) (run (A_zz70) N (codeAt Try.f49 [1, 1, 1, 1, 0, 1, 0, 0])) n ([.u, .u, .val (.sl I) .i f2, .u, .val (.ptr (.pair (.sl (.sl I)) .unit)) (.o .i) q4, .u, .u, .u, .val (.sl I) (.o .i) out8, .val (.sl I) (.o .i) from9, .val (.sl I) (.o .i) to10, .val I .i i11] ++ List.replicate 49 .u) K
noncomputable def zz70_R9 (N n : Nat) (K : Ex → St → Option ((Y4 × (Bool × Unit)) × Unit)) (f2 : Y4) (q4 : Y2) (out8 : Y4) (from9 : Y4) (to10 : Y4) (i11 : Int) (k12 : Int) : Option ((Y4 × (Bool × Unit)) × Unit) := iter ((A_zz70).shape 18) (run (A_zz70) N (codeAt Try.f49 [1, 1, 1, 1, 0, 1, 0, 0, 1, 0, 0, 1, 0, 0, 0])) n ([.u, .u, .val (.sl I) .i f2, .u, .val (.ptr (.pair (.sl (.sl I)) .unit)) (.o .i) q4, .u, .u, .u, .val (.sl I) (.o .i) out8, .val (.sl I) (.o .i) from9, .val (.sl I) (.o .i) to10, .val I .i i11, .val I .i k12] ++ List.replicate 48 .u) K
noncomputable abbrev zz70_z : Ex → St → Option ((Y4 × (Bool × Unit)) × Unit) := finish (A_zz70) S_zz70 Try.f49.results.toList
noncomputable abbrev zz70_X6 (kX : St → Option ((Y4 × (Bool × Unit)) × Unit)) : Y4 → Option ((Y4 × (Bool × Unit)) × Unit) := fun (out8 : Y4) => kX ([.u, .u, .u, .u, .u, .u, .u, .u, .val (.sl I) (.o .i) out8] ++ List.replicate 52 .u)
noncomputable abbrev zz70_E6 (kX : St → Option ((Y4 × (Bool × Unit)) × Unit)) (kO : Nat → St → Option ((Y4 × (Bool × Unit)) × Unit)) : Ex → St → Option ((Y4 × (Bool × Unit)) × Unit) := exK zz70_z 0 ((A_zz70).shape 25) kX kO
noncomputable abbrev zz70_X9 (kX : St → Option ((Y4 × (Bool × Unit)) × Unit)) : Y4 → Y2 → Y4 → Y4 → Y4 → Int → Int → Option ((Y4 × (Bool × Unit)) × Unit) := fun (f2 : Y4) (q4 : Y2) (out8 : Y4) (from9 : Y4) (to10 : Y4) (i11 : Int) (k12 : Int) => kX ([.u, .u, .val (.sl I) .i f2, .u, .val (.ptr (.pair (.sl (.sl I)) .unit)) (.o .i) q4, .u, .u, .u, .val (.sl I) (.o .i) out8, .val (.sl I) (.o .i) from9, .val (.sl I) (.o .i) to10, .val I .i i11, .val I .i k12] ++ List.replicate 48 .u)
noncomputable abbrev zz70_E9 (kX : St → Option ((Y4 × (Bool × Unit)) × Unit)) (kO : Nat → St → Option ((Y4 × (Bool × Unit)) × Unit)) : Ex → St → Option ((Y4 × (Bool × Unit)) × Unit) := exK zz70_z 2 ((A_zz70).shape 23) kX kO
theorem zz70_step9 (N : Nat) (m : Nat) (kX : St → Option ((Y4 × (Bool × Unit)) × Unit)) (kO : Nat → St → Option ((Y4 × (Bool × Unit)) × Unit)) (f2 : Y4) (q4 : Y2) (out8 : Y4) (from9 : Y4) (to10 : Y4) (i11 : Int) (k12 : Int) : zz70_R9 N (m + 1) (zz70_E9 kX kO) f2 q4 out8 from9 to10 i11 k12 = zz70_b9 (zz70_R9 N m (zz70_E9 kX kO)) (zz70_X9 kX) f2 q4 out8 from9 to10 i11 k12 := by kernel_rfl
theorem zz70_iter9 (N : Nat) (kX : St → Option ((Y4 × (Bool × Unit)) × Unit)) (kO : Nat → St → Option ((Y4 × (Bool × Unit)) × Unit)) : ∀ (n : Nat) (f2 : Y4) (q4 : Y2) (out8 : Y4) (from9 : Y4) (to10 : Y4) (i11 : Int) (k12 : Int), zz70_R9 N n (zz70_E9 kX kO) f2 q4 out8 from9 to10 i11 k12 = zz70_l9 N (zz70_X9 kX) n f2 q4 out8 from9 to10 i11 k12
  | 0, _, _, _, _, _, _, _ => rfl
  | m + 1, f2, q4, out8, from9, to10, i11, k12 => by
    have hrec : zz70_R9 N m (zz70_E9 kX kO) = (zz70_l9 N (zz70_X9 kX) m) := (funext fun f2 => (funext fun q4 => (funext fun out8 => (funext fun from9 => (funext fun to10 => (funext fun i11 => (funext fun k12 => zz70_iter9 N kX kO m f2 q4 out8 from9 to10 i11 k12)))))))
    refine (zz70_step9 N m kX kO f2 q4 out8 from9 to10 i11 k12).trans ?_
    rw [hrec]
    rfl
noncomputable abbrev zz70_K9 (N : Nat) (m : Nat) (kX : St → Option ((Y4 × (Bool × Unit)) × Unit)) (kO : Nat → St → Option ((Y4 × (Bool × Unit)) × Unit)) : Ex → St → Option ((Y4 × (Bool × Unit)) × Unit) := (blockK 2 (seqK ((A_zz70).shape 23) (run (A_zz70) N (codeAt Try.f49 [1, 1, 1, 1, 0, 1, 0, 0, 1, 0, 0, 1, 1])) (blockK 1 (seqK ((A_zz70).shape 15) (run (A_zz70) N (codeAt Try.f49 [1, 1, 1, 1, 0, 1, 0, 0, 1, 1])) (iterK ((A_zz70).shape 12) (run (A_zz70) N (codeAt Try.f49 [1, 1, 1, 1, 0, 1, 0, 0])) m (zz70_E6 kX kO))))))
noncomputable abbrev zz70_k9 (N : Nat) (m : Nat) (kX : St → Option ((Y4 × (Bool × Unit)) × Unit)) (kO : Nat → St → Option ((Y4 × (Bool × Unit)) × Unit)) : St → Option ((Y4 × (Bool × Unit)) × Unit) := fun st' => run (A_zz70) N (codeAt Try.f49 [1, 1, 1, 1, 0, 1, 0, 0, 1, 0, 0, 1, 1]) st' (blockK 1 (seqK ((A_zz70).shape 15) (run (A_zz70) N (codeAt Try.f49 [1, 1, 1, 1, 0, 1, 0, 0, 1, 1])) (iterK ((A_zz70).shape 12) (run (A_zz70) N (codeAt Try.f49 [1, 1, 1, 1, 0, 1, 0, 0])) m (zz70_E6 kX kO))))
theorem zz70_after9 (N : Nat) (m : Nat) (kX : St → Option ((Y4 × (Bool × Unit)) × Unit)) (kO : Nat → St → Option ((Y4 × (Bool × Unit)) × Unit)) (f2 : Y4) (q4 : Y2) (out8 : Y4) (from9 : Y4) (to10 : Y4) (i11 : Int) (k12 : Int) : zz70_X9 (zz70_k9 N m kX kO) f2 q4 out8 from9 to10 i11 k12 = zz70_a9 (zz70_R6 N m (zz70_E6 kX kO)) f2 q4 out8 from9 to10 i11 k12 := by kernel_rfl
theorem zz70_in9 (N : Nat) (m : Nat) (kX : St → Option ((Y4 × (Bool × Unit)) × Unit)) (kO : Nat → St → Option ((Y4 × (Bool × Unit)) × Unit)) (recF : Y4 → Y2 → Y4 → Y4 → Y4 → Int → Option ((Y4 × (Bool × Unit)) × Unit)) (hrec : zz70_R6 N m (zz70_E6 kX kO) = recF) (f2 : Y4) (q4 : Y2) (out8 : Y4) (from9 : Y4) (to10 : Y4) (i11 : Int) (k12 : Int) : zz70_R9 N N (zz70_K9 N m kX kO) f2 q4 out8 from9 to10 i11 k12 = zz70_F9 N recF (zz70_X6 kX) f2 q4 out8 from9 to10 i11 k12 :=
  have h : zz70_X9 (zz70_k9 N m kX kO) = (zz70_a9 recF) := (funext fun f2 => (funext fun q4 => (funext fun out8 => (funext fun from9 => (funext fun to10 => (funext fun i11 => (funext fun k12 => (zz70_after9 N m kX kO f2 q4 out8 from9 to10 i11 k12).trans (by rw [hrec]))))))))
  ((iter_ex (fun st => by kernel_rfl) (fun st => by kernel_rfl)).trans (zz70_iter9 N (zz70_k9 N m kX kO) (fun j st => (zz70_K9 N m kX kO) (.exit j) st) N f2 q4 out8 from9 to10 i11 k12)).trans (congrArg (fun k => zz70_l9 N k N f2 q4 out8 from9 to10 i11 k12) h)
theorem zz70_step6 (N : Nat) (m : Nat) (kX : St → Option ((Y4 × (Bool × Unit)) × Unit)) (kO : Nat → St → Option ((Y4 × (Bool × Unit)) × Unit)) (f2 : Y4) (q4 : Y2) (out8 : Y4) (from9 : Y4) (to10 : Y4) (i11 : Int) : zz70_R6 N (m + 1) (zz70_E6 kX kO) f2 q4 out8 from9 to10 i11 = zz70_b6 (zz70_R9 N N (zz70_K9 N m kX kO)) (zz70_X6 kX) f2 q4 out8 from9 to10 i11 := by kernel_rfl
theorem zz70_iter6 (N : Nat) (kX : St → Option ((Y4 × (Bool × Unit)) × Unit)) (kO : Nat → St → Option ((Y4 × (Bool × Unit)) × Unit)) : ∀ (n : Nat) (f2 : Y4) (q4 : Y2) (out8 : Y4) (from9 : Y4) (to10 : Y4) (i11 : Int), zz70_R6 N n (zz70_E6 kX kO) f2 q4 out8 from9 to10 i11 = zz70_l6 N (zz70_X6 kX) n f2 q4 out8 from9 to10 i11
  | 0, _, _, _, _, _, _ => rfl
  | m + 1, f2, q4, out8, from9, to10, i11 => by
    have hrec : zz70_R6 N m (zz70_E6 kX kO) = (zz70_l6 N (zz70_X6 kX) m) := (funext fun f2 => (funext fun q4 => (funext fun out8 => (funext fun from9 => (funext fun to10 => (funext fun i11 => zz70_iter6 N kX kO m f2 q4 out8 from9 to10 i11))))))
    refine (zz70_step6 N m kX kO f2 q4 out8 from9 to10 i11).trans ?_
    rw [(funext fun f2 => (funext fun q4 => (funext fun out8 => (funext fun from9 => (funext fun to10 => (funext fun i11 => (funext fun k12 => zz70_in9 N m kX kO (zz70_l6 N (zz70_X6 kX) m) hrec f2 q4 out8 from9 to10 i11 k12)))))))]
    rfl
noncomputable abbrev zz70_K6 (N : Nat) : Ex → St → Option ((Y4 × (Bool × Unit)) × Unit) := (blockK 0 (seqK ((A_zz70).shape 25) (run (A_zz70) N (codeAt Try.f49 [1, 1, 1, 1, 1])) zz70_z))
noncomputable abbrev zz70_k6 (N : Nat) : St → Option ((Y4 × (Bool × Unit)) × Unit) := fun st' => run (A_zz70) N (codeAt Try.f49 [1, 1, 1, 1, 1]) st' zz70_z
theorem zz70_after6 (N : Nat) (out8 : Y4) : zz70_X6 (zz70_k6 N) out8 = zz70_a6 out8 := by kernel_rfl
theorem zz70_in6 (N : Nat) (f2 : Y4) (q4 : Y2) (out8 : Y4) (from9 : Y4) (to10 : Y4) (i11 : Int) : zz70_R6 N N (zz70_K6 N) f2 q4 out8 from9 to10 i11 = zz70_F6 N f2 q4 out8 from9 to10 i11 :=
  have h : zz70_X6 (zz70_k6 N) = (zz70_a6) := (funext fun out8 => zz70_after6 N out8)
  ((iter_ex (fun st => by kernel_rfl) (fun st => by kernel_rfl)).trans (zz70_iter6 N (zz70_k6 N) (fun j st => (zz70_K6 N) (.exit j) st) N f2 q4 out8 from9 to10 i11)).trans (congrArg (fun k => zz70_l6 N k N f2 q4 out8 from9 to10 i11) h)
theorem run0_zz70 (N : Nat) (x : (S_zz70).a.den) : runF (A_zz70) N Try.f49 S_zz70 x = (zz70_s (zz70_R6 N N (zz70_K6 N)) x.1 x.2.1 x.2.2.1) := by kernel_rfl
theorem run_zz70 (N : Nat) (x : (S_zz70).a.den) : runF (A_zz70) N Try.f49 S_zz70 x = zz70 N x.1 x.2.1 x.2.2.1 := by
  refine (run0_zz70 N x).trans ?_
  rw [(funext fun f2 => (funext fun q4 => (funext fun out8 => (funext fun from9 => (funext fun to10 => (funext fun i11 => zz70_in6 N f2 q4 out8 from9 to10 i11))))))]
  rfl
theorem fn_zz70 : FnOk Try.prog 49 := ⟨_, Try.func49, by kernel_rfl, by kernel_rfl⟩
theorem good_zz70 : Gx.Good Try.prog 49 S_zz70 := good_of_run Try.func49 (of_decide_eq_true (by kernel_rfl)) fun x r h => ⟨A_zz70, big, mkCfg_ok tabOk, mkCfg_sigs (show SigsOk Try.prog [(85, S_zz23), (103, S_zz69), (95, S_zz26), (96, S_zz11)] from ⟨⟨fn_zz23, good_zz23⟩, ⟨fn_zz69, good_zz69⟩, ⟨fn_zz26, good_zz26⟩, ⟨fn_zz11, good_zz11⟩, trivial⟩), (run_zz70 big x).trans h⟩

/-! zz71 -/
def zz71_s (o_0 : Y5) (list_1 : Y4) : Option (Bool × Unit) :=
  (zz31 big list_1 (o_0.length : Int)).bind fun rq1 =>
  some (rq1.1, (()))
def zz71 (o_0 : Y5) (list_1 : Y4) : Option (Bool × Unit) := zz71_s o_0 list_1
def S_zz71 : Sig := { a := (.pair (.sl (.sl .bool)) (.pair (.sl I) .unit)), md := [0, 0], mf := [], m := .unit, r := .bool, rf := .i, f := fun x => zz71 x.1 x.2.1 }
def A_zz71 : Cfg := mkCfg tab [(101, S_zz31)] []
theorem run_zz71 (N : Nat) (x : (S_zz71).a.den) : runF (A_zz71) N Try.f91 S_zz71 x = zz71 x.1 x.2.1 := by kernel_rfl
theorem fn_zz71 : FnOk Try.prog 91 := ⟨_, Try.func91, by kernel_rfl, by kernel_rfl⟩
theorem good_zz71 : Gx.Good Try.prog 91 S_zz71 := good_of_run Try.func91 (of_decide_eq_true (by kernel_rfl)) fun x r h => ⟨A_zz71, big, mkCfg_ok tabOk, mkCfg_sigs (show SigsOk Try.prog [(101, S_zz31)] from ⟨⟨fn_zz31, good_zz31⟩, trivial⟩), (run_zz71 big x).trans h⟩

/-! zz72 -/
def zz72_b7 (rec : Y1 → Y1 → Y4 → Int → Int → Int → Int → Int → Option (Bool × Unit)) (k : Y1 → Y1 → Y4 → Int → Int → Option (Bool × Unit)) (l0 : Y1) (m1 : Y1) (f2 : Y4) (x7 : Int) (t47 : Int) (t48 : Int) (t52 : Int) (t53 : Int) : Option (Bool × Unit) :=
  cond (decide (t53 < t52))
  ((l0).bind fun xq10 =>
  (atI xq10.2.1 x7).bind fun xq11 =>
  (atI xq11 t53).bind fun xq12 =>
  (atI f2 xq12).bind fun xq13 =>
  (m1).bind fun xq14 =>
  (atI f2 x7).bind fun xq15 =>
  (atI xq14.2.1 xq15).bind fun xq16 =>
  (atI f2 t53).bind fun xq17 =>
  (atI xq16 xq17).bind fun xq18 =>
  cond (decide (xq13 ≠ xq18))
  (some (false, (())))
  ((l0).bind fun xq19 =>
  (atI xq19.2.2.1 x7).bind fun xq20 =>
  (atI xq20 t53).bind fun xq21 =>
  (atI f2 xq21).bind fun xq22 =>
  (m1).bind fun xq23 =>
  (atI f2 x7).bind fun xq24 =>
  (atI xq23.2.2.1 xq24).bind fun xq25 =>
  (atI f2 t53).bind fun xq26 =>
  (atI xq25 xq26).bind fun xq27 =>
  cond (decide (xq22 ≠ xq27))
  (some (false, (())))
  (rec l0 m1 f2 x7 t47 t48 t52 (IntKind.i64.wrap (t53 + (1 : Int))))))
  (k l0 m1 f2 t47 t48)
def zz72_a7 (rec : Y1 → Y1 → Y4 → Int → Int → Option (Bool × Unit)) (l0 : Y1) (m1 : Y1) (f2 : Y4) (t47 : Int) (t48 : Int) : Option (Bool × Unit) :=
  rec l0 m1 f2 t47 (IntKind.i64.wrap (t48 + (1 : Int)))
def zz72_b4 (L7 : Y1 → Y1 → Y4 → Int → Int → Int → Int → Int → Option (Bool × Unit)) (k : Option (Bool × Unit)) (l0 : Y1) (m1 : Y1) (f2 : Y4) (t47 : Int) (t48 : Int) : Option (Bool × Unit) :=
  cond (decide (t48 < t47))
  (L7 l0 m1 f2 t48 t47 t48 (f2.length : Int) (0 : Int))
  (k)
def zz72_a4 : Option (Bool × Unit) :=
  some (true, (()))
def zz72_s (L4 : Y1 → Y1 → Y4 → Int → Int → Option (Bool × Unit)) (l_0 : Y1) (m_1 : Y1) (f_2 : Y4) : Option (Bool × Unit) :=
  (l_0).bind fun xq1 =>
  cond (decide ((f_2.length : Int) ≠ (xq1.1.length : Int)))
  (some (false, (())))
  ((m_1).bind fun xq2 =>
  (zz71 xq2.1 f_2).bind fun rq3 =>
  cond (!rq3.1)
  (some (false, (())))
  ((zz42 big l_0).bind fun rq4 =>
  (atI f_2 rq4.1).bind fun xq5 =>
  (zz42 big m_1).bind fun rq6 =>
  cond (decide (xq5 ≠ rq6.1))
  (some (false, (())))
  ((zz43 big l_0).bind fun rq7 =>
  (atI f_2 rq7.1).bind fun xq8 =>
  (zz43 big m_1).bind fun rq9 =>
  cond (decide (xq8 ≠ rq9.1))
  (some (false, (())))
  (L4 l_0 m_1 f_2 (f_2.length : Int) (0 : Int)))))
def zz72_l7 (N : Nat) (k : Y1 → Y1 → Y4 → Int → Int → Option (Bool × Unit)) : Nat → Y1 → Y1 → Y4 → Int → Int → Int → Int → Int → Option (Bool × Unit)
  | 0, _, _, _, _, _, _, _, _ => none
  | m + 1, l0, m1, f2, x7, t47, t48, t52, t53 => zz72_b7 (zz72_l7 N k m) k l0 m1 f2 x7 t47 t48 t52 t53
def zz72_F7 (N : Nat) (rec : Y1 → Y1 → Y4 → Int → Int → Option (Bool × Unit)) (k : Option (Bool × Unit)) (l0 : Y1) (m1 : Y1) (f2 : Y4) (x7 : Int) (t47 : Int) (t48 : Int) (t52 : Int) (t53 : Int) : Option (Bool × Unit) := zz72_l7 N (zz72_a7 rec) N l0 m1 f2 x7 t47 t48 t52 t53
def zz72_l4 (N : Nat) (k : Option (Bool × Unit)) : Nat → Y1 → Y1 → Y4 → Int → Int → Option (Bool × Unit)
  | 0, _, _, _, _, _ => none
  | m + 1, l0, m1, f2, t47, t48 => zz72_b4 (zz72_F7 N (zz72_l4 N k m) k) k l0 m1 f2 t47 t48
def zz72_F4 (N : Nat) (l0 : Y1) (m1 : Y1) (f2 : Y4) (t47 : Int) (t48 : Int) : Option (Bool × Unit) := zz72_l4 N (zz72_a4) N l0 m1 f2 t47 t48
def zz72 (N : Nat) (l_0 : Y1) (m_1 : Y1) (f_2 : Y4) : Option (Bool × Unit) := zz72_s (zz72_F4 N) l_0 m_1 f_2
def S_zz72 : Sig := { a := (.pair (.opt (.pair (.sl (.sl .bool)) (.pair (.sl (.sl I)) (.pair (.sl (.sl I)) .unit)))) (.pair (.opt (.pair (.sl (.sl .bool)) (.pair (.sl (.sl I)) (.pair (.sl (.sl I)) .unit)))) (.pair (.sl I) .unit))), md := [0, 0, 0], mf := [], m := .unit, r := .bool, rf := .i, f := fun x => zz72 big x.1 x.2.1 x.2.2.1 }
def A_zz72 : Cfg := mkCfg tab [(91, S_zz71), (70, S_zz42), (122, S_zz43)] [(8, [.as (.opt (.pair (.sl (.sl .bool)) (.pair (.sl (.sl I)) (.pair (.sl (.sl I)) .unit)))) .i, .as (.opt (.pair (.sl (.sl .bool)) (.pair (.sl (.sl I)) (.pair (.sl (.sl I)) .unit)))) .i, .as (.sl I) .i, .drop, .drop, .drop, .drop, .drop, .drop, .drop, .drop, .drop, .drop, .drop, .drop, .drop, .drop, .drop, .drop, .drop, .drop, .drop, .drop, .drop, .drop, .drop, .drop, .drop, .drop, .drop, .drop, .drop, .drop, .drop, .drop, .drop, .drop, .drop, .drop, .drop, .drop, .drop, .drop, .drop, .drop, .drop, .drop, .as I .i, .as I .i]), (14, [.as (.opt (.pair (.sl (.sl .bool)) (.pair (.sl (.sl I)) (.pair (.sl (.sl I)) .unit)))) .i, .as (.opt (.pair (.sl (.sl .bool)) (.pair (.sl (.sl I)) (.pair (.sl (.sl I)) .unit)))) .i, .as (.sl I) .i, .drop, .drop, .drop, .drop, .as I .i, .drop, .drop, .drop, .drop, .drop, .drop, .drop, .drop, .drop, .drop, .drop, .drop, .drop, .drop, .drop, .drop, .drop, .drop, .drop, .drop, .drop, .drop, .drop, .drop, .drop, .drop, .drop, .drop, .drop, .drop, .drop, .drop, .drop, .drop, .drop, .drop, .drop, .drop, .drop, .as I .i, .as I .i, .drop, .drop, .drop, .as I .i, .as I .i]), (27, []), (25, [.as (.opt (.pair (.sl (.sl .bool)) (.pair (.sl (.sl I)) (.pair (.sl (.sl I)) .unit)))) .i, .as (.opt (.pair (.sl (.sl .bool)) (.pair (.sl (.sl I)) (.pair (.sl (.sl I)) .unit)))) .i, .as (.sl I) .i, .drop, .drop, .drop, .drop, .drop, .drop, .drop, .drop, .drop, .drop, .drop, .drop, .drop, .drop, .drop, .drop, .drop, .drop, .drop, .drop, .drop, .drop, .drop, .drop, .drop, .drop, .drop, .drop, .drop, .drop, .drop, .drop, .drop, .drop, .drop, .drop, .drop, .drop, .drop, .drop, .drop, .drop, .drop, .drop, .as I .i, .as I .i])]
noncomputable def zz72_R4 (N n : Nat) (K : Ex → St → Option (Bool × Unit)) (l0 : Y1) (m1 : Y1) (f2 : Y4) (t47 : Int) (t48 : Int) : Option (Bool × Unit) := iter ((A_zz72).shape 8) (run (A_zz72) N (codeAt Try.f104 [1, 1, 0, 1, 0, 0])) n ([.val (.opt (.pair (.sl (.sl .bool)) (.pair (.sl (.sl I)) (.pair (.sl (.sl I)) .unit)))) .i l0, .val (.opt (.pair (.sl (.sl .bool)) (.pair (.sl (.sl I)) (.pair (.sl (.sl I)) .unit)))) .i m1, .val (.sl I) .i f2, .u, .u, .u, .u, .u, .u, .u, .u, .u, .u, .u, .u, .u, .u, .u, .u, .u, .u, .u, .u, .u, .u, .u, .u, .u, .u, .u, .u, .u, .u, .u, .u, .u, .u, .u, .u, .u, .u, .u, .u, .u, .u, .u, .u, .val I .i t47, .val I .i t48] ++ List.replicate 71 .u) K
noncomputable def zz72_R7 (N n : Nat) (K : Ex → St → Option (Bool × Unit)) (l0 : Y1) (m1 : Y1) (f2 : Y4) (x7 : Int) (t47 : Int) (t48 : Int) (t52 : Int) (t53 : Int) : Option (Bool × Unit) := iter ((A_zz72).shape 14) (run (A_zz72) N (codeAt Try.f104 [1, 1, 0, 1, 0, 0, 1, 1, 0, 0, 1, 1, 0, 0])) n ([.val (.opt (.pair (.sl (.sl .bool)) (.pair (.sl (.sl I)) (.pair (.sl (.sl I)) .unit)))) .i l0, .val (.opt (.pair (.sl (.sl .bool)) (.pair (.sl (.sl I)) (.pair (.sl (.sl I)) .unit)))) .i m1, .val (.sl I) .i f2, .u, .u, .u, .u, .val I .i x7, .u, .u, .u, .u, .u, .u, .u, .u, .u, .u, .u, .u, .u, .u, .u, .u, .u, .u, .u, .u, .u, .u, .u, .u, .u, .u, .u, .u, .u, .u, .u, .u, .u, .u, .u, .u, .u, .u, .u, .val I .i t47, .val I .i t48, .u, .u, .u, .val I .i t52, .val I .i t53] ++ List.replicate 66 .u) K
noncomputable abbrev zz72_z : Ex → St → Option (Bool × Unit) := finish (A_zz72) S_zz72 Try.f104.results.toList
noncomputable abbrev zz72_X4 (kX : St → Option (Bool × Unit)) : Option (Bool × Unit) := kX ([] ++ List.replicate 120 .u)
noncomputable abbrev zz72_E4 (kX : St → Option (Bool × Unit)) (kO : Nat → St → Option (Bool × Unit)) : Ex → St → Option (Bool × Unit) := exK zz72_z 0 ((A_zz72).shape 27) kX kO
noncomputable abbrev zz72_X7 (kX : St → Option (Bool × Unit)) : Y1 → Y1 → Y4 → Int → Int → Option (Bool × Unit) := fun (l0 : Y1) (m1 : Y1) (f2 : Y4) (t47 : Int) (t48 : Int) => kX ([.val (.opt (.pair (.sl (.sl .bool)) (.pair (.sl (.sl I)) (.pair (.sl (.sl I)) .unit)))) .i l0, .val (.opt (.pair (.sl (.sl .bool)) (.pair (.sl (.sl I)) (.pair (.sl (.sl I)) .unit)))) .i m1, .val (.sl I) .i f2, .u, .u, .u, .u, .u, .u, .u, .u, .u, .u, .u, .u, .u, .u, .u, .u, .u, .u, .u, .u, .u, .u, .u, .u, .u, .u, .u, .u, .u, .u, .u, .u, .u, .u, .u, .u, .u, .u, .u, .u, .u, .u, .u, .u, .val I .i t47, .val I .i t48] ++ List.replicate 71 .u)
noncomputable abbrev zz72_E7 (kX : St → Option (Bool × Unit)) (kO : Nat → St → Option (Bool × Unit)) : Ex → St → Option (Bool × Unit) := exK zz72_z 2 ((A_zz72).shape 25) kX kO
theorem zz72_step7 (N : Nat) (m : Nat) (kX : St → Option (Bool × Unit)) (kO : Nat → St → Option (Bool × Unit)) (l0 : Y1) (m1 : Y1) (f2 : Y4) (x7 : Int) (t47 : Int) (t48 : Int) (t52 : Int) (t53 : Int) : zz72_R7 N (m + 1) (zz72_E7 kX kO) l0 m1 f2 x7 t47 t48 t52 t53 = zz72_b7 (zz72_R7 N m (zz72_E7 kX kO)) (zz72_X7 kX) l0 m1 f2 x7 t47 t48 t52 t53 := by kernel_rfl
theorem zz72_iter7 (N : Nat) (kX : St → Option (Bool × Unit)) (kO : Nat → St → Option (Bool × Unit)) : ∀ (n : Nat) (l0 : Y1) (m1 : Y1) (f2 : Y4) (x7 : Int) (t47 : Int) (t48 : Int) (t52 : Int) (t53 : Int), zz72_R7 N n (zz72_E7 kX kO) l0 m1 f2 x7 t47 t48 t52 t53 = zz72_l7 N (zz72_X7 kX) n l0 m1 f2 x7 t47 t48 t52 t53
  | 0, _, _, _, _, _, _, _, _ => rfl
  | m + 1, l0, m1, f2, x7, t47, t48, t52, t53 => by
    have hrec : zz72_R7 N m (zz72_E7 kX kO) = (zz72_l7 N (zz72_X7 kX) m) := (funext fun l0 => (funext fun m1 => (funext fun f2 => (funext fun x7 => (funext fun t47 => (funext fun t48 => (funext fun t52 => (funext fun t53 => zz72_iter7 N kX kO m l0 m1 f2 x7 t47 t48 t52 t53))))))))
    refine (zz72_step7 N m kX kO l0 m1 f2 x7 t47 t48 t52 t53).trans ?_
    rw [hrec]
    rfl
noncomputable abbrev zz72_K7 (N : Nat) (m : Nat) (kX : St → Option (Bool × Unit)) (kO : Nat → St → Option (Bool × Unit)) : Ex → St → Option (Bool × Unit) := (blockK 2 (blockK 1 (seqK ((A_zz72).shape 25) (run (A_zz72) N (codeAt Try.f104 [1, 1, 0, 1, 0, 0, 1, 1, 1])) (iterK ((A_zz72).shape 8) (run (A_zz72) N (codeAt Try.f104 [1, 1, 0, 1, 0, 0])) m (zz72_E4 kX kO)))))
noncomputable abbrev zz72_k7 (N : Nat) (m : Nat) (kX : St → Option (Bool × Unit)) (kO : Nat → St → Option (Bool × Unit)) : St → Option (Bool × Unit) := fun st' => run (A_zz72) N (codeAt Try.f104 [1, 1, 0, 1, 0, 0, 1, 1, 1]) st' (iterK ((A_zz72).shape 8) (run (A_zz72) N (codeAt Try.f104 [1, 1, 0, 1, 0, 0])) m (zz72_E4 kX kO))
theorem zz72_after7 (N : Nat) (m : Nat) (kX : St → Option (Bool × Unit)) (kO : Nat → St → Option (Bool × Unit)) (l0 : Y1) (m1 : Y1) (f2 : Y4) (t47 : Int) (t48 : Int) : zz72_X7 (zz72_k7 N m kX kO) l0 m1 f2 t47 t48 = zz72_a7 (zz72_R4 N m (zz72_E4 kX kO)) l0 m1 f2 t47 t48 := by kernel_rfl
theorem zz72_in7 (N : Nat) (m : Nat) (kX : St → Option (Bool × Unit)) (kO : Nat → St → Option (Bool × Unit)) (recF : Y1 → Y1 → Y4 → Int → Int → Option (Bool × Unit)) (hrec : zz72_R4 N m (zz72_E4 kX kO) = recF) (l0 : Y1) (m1 : Y1) (f2 : Y4) (x7 : Int) (t47 : Int) (t48 : Int) (t52 : Int) (t53 : Int) : zz72_R7 N N (zz72_K7 N m kX kO) l0 m1 f2 x7 t47 t48 t52 t53 = zz72_F7 N recF (zz72_X4 kX) l0 m1 f2 x7 t47 t48 t52 t53 :=
  have h : zz72_X7 (zz72_k7 N m kX kO) = (zz72_a7 recF) := (funext fun l0 => (funext fun m1 => (funext fun f2 => (funext fun t47 => (funext fun t48 => (zz72_after7 N m kX kO l0 m1 f2 t47 t48).trans (by rw [hrec]))))))
  ((iter_ex (fun st => by kernel_rfl) (fun st => by kernel_rfl)).trans (zz72_iter7 N (zz72_k7 N m kX kO) (fun j st => (zz72_K7 N m kX kO) (.exit j) st) N l0 m1 f2 x7 t47 t48 t52 t53)).trans (congrArg (fun k => zz72_l7 N k N l0 m1 f2 x7 t47 t48 t52 t53) h)
theorem zz72_step4 (N : Nat) (m : Nat) (kX : St → Option (Bool × Unit)) (kO : Nat → St → Option (Bool × Unit)) (l0 : Y1) (m1 : Y1) (f2 : Y4) (t47 : Int) (t48 : Int) : zz72_R4 N (m + 1) (zz72_E4 kX kO) l0 m1 f2 t47 t48 = zz72_b4 (zz72_R7 N N (zz72_K7 N m kX kO)) (zz72_X4 kX) l0 m1 f2 t47 t48 := by kernel_rfl
theorem zz72_iter4 (N : Nat) (kX : St → Option (Bool × Unit)) (kO : Nat → St → Option (Bool × Unit)) : ∀ (n : Nat) (l0 : Y1) (m1 : Y1) (f2 : Y4) (t47 : Int) (t48 : Int), zz72_R4 N n (zz72_E4 kX kO) l0 m1 f2 t47 t48 = zz72_l4 N (zz72_X4 kX) n l0 m1 f2 t47 t48
  | 0, _, _, _, _, _ => rfl
  | m + 1, l0, m1, f2, t47, t48 => by
    have hrec : zz72_R4 N m (zz72_E4 kX kO) = (zz72_l4 N (zz72_X4 kX) m) := (funext fun l0 => (funext fun m1 => (funext fun f2 => (funext fun t47 => (funext fun t48 => zz72_iter4 N kX kO m l0 m1 f2 t47 t48)))))
    refine (zz72_step4 N m kX kO l0 m1 f2 t47 t48).trans ?_
    rw [(funext fun l0 => (funext fun m1 => (funext fun f2 => (funext fun x7 => (funext fun t47 => (funext fun t48 => (funext fun t52 => (funext fun t53 => zz72_in7 N m kX kO (zz72_l4 N (zz72_X4 kX) m) hrec l0 m1 f2 x7 t47 t48 t52 t53))))))))]
    rfl
noncomputable abbrev zz72_K4 (N : Nat) : Ex → St → Option (Bool × Unit) := (blockK 0 (seqK ((A_zz72).shape 27) (run (A_zz72) N (codeAt Try.f104 [1, 1, 1])) zz72_z))
noncomputable abbrev zz72_k4 (N : Nat) : St → Option (Bool × Unit) := fun st' => run (A_zz72) N (codeAt Try.f104 [1, 1, 1]) st' zz72_z
theorem zz72_after4 (N : Nat) : zz72_X4 (zz72_k4 N) = zz72_a4 := by kernel_rfl
theorem zz72_in4 (N : Nat) (l0 : Y1) (m1 : Y1) (f2 : Y4) (t47 : Int) (t48 : Int) : zz72_R4 N N (zz72_K4 N) l0 m1 f2 t47 t48 = zz72_F4 N l0 m1 f2 t47 t48 :=
  have h : zz72_X4 (zz72_k4 N) = (zz72_a4) := zz72_after4 N
  ((iter_ex (fun st => by kernel_rfl) (fun st => by kernel_rfl)).trans (zz72_iter4 N (zz72_k4 N) (fun j st => (zz72_K4 N) (.exit j) st) N l0 m1 f2 t47 t48)).trans (congrArg (fun k => zz72_l4 N k N l0 m1 f2 t47 t48) h)
theorem run0_zz72 (N : Nat) (x : (S_zz72).a.den) : runF (A_zz72) N Try.f104 S_zz72 x = (zz72_s (zz72_R4 N N (zz72_K4 N)) x.1 x.2.1 x.2.2.1) := by kernel_rfl
theorem run_zz72 (N : Nat) (x : (S_zz72).a.den) : runF (A_zz72) N Try.f104 S_zz72 x = zz72 N x.1 x.2.1 x.2.2.1 := by
  refine (run0_zz72 N x).trans ?_
  rw [(funext fun l0 => (funext fun m1 => (funext fun f2 => (funext fun t47 => (funext fun t48 => zz72_in4 N l0 m1 f2 t47 t48)))))]
  rfl
theorem fn_zz72 : FnOk Try.prog 104 := ⟨_, Try.func104, by kernel_rfl, by kernel_rfl⟩
theorem good_zz72 : Gx.Good Try.prog 104 S_zz72 := good_of_run Try.func104 (of_decide_eq_true (by kernel_rfl)) fun x r h => ⟨A_zz72, big, mkCfg_ok tabOk, mkCfg_sigs (show SigsOk Try.prog [(91, S_zz71), (70, S_zz42), (122, S_zz43)] from ⟨⟨fn_zz71, good_zz71⟩, ⟨fn_zz42, good_zz42⟩, ⟨fn_zz43, good_zz43⟩, trivial⟩), (run_zz72 big x).trans h⟩

/-! zz73 -/
def zz73_b9 (k : Y4 → Y1 → Y1 → Y4 → Y4 → Int → Int → Option ((Y4 × (Bool × Unit)) × Unit)) (rec : Y4 → Y1 → Y1 → Y4 → Int → Y4 → Int → Int → Y4 → Int → Int → Option ((Y4 × (Bool × Unit)) × Unit)) (f2 : Y4) (l8 : Y1) (m9 : Y1) (list11 : Y4) (atom13 : Int) (t35 : Y4) (t36 : Int) (t37 : Int) (t42 : Y4) (t43 : Int) (t44 : Int) : Option ((Y4 × (Bool × Unit)) × Unit) :=
  cond (decide (t44 < t43))
  ((atI t42 t44).bind fun _ =>
  (t42[t44.toNat]?).bind fun xq6 =>
  (m9).bind fun xq7 =>
  (atI xq7.1 atom13).bind fun xq8 =>
  (atI f2 xq6).bind fun xq9 =>
  (atI xq8 xq9).bind fun xq10 =>
  cond xq10
  ((appI list11 [t44]).bind fun xq11 =>
  k f2 l8 m9 xq11 t35 t36 t37)
  (rec f2 l8 m9 list11 atom13 t35 t36 t37 t42 t43 (IntKind.i64.wrap (t44 + (1 : Int)))))
  (k f2 l8 m9 list11 t35 t36 t37)
def zz73_a9 (rec : Y4 → Y1 → Y1 → Y4 → Y4 → Int → Int → Option ((Y4 × (Bool × Unit)) × Unit)) (f2 : Y4) (l8 : Y1) (m9 : Y1) (list11 : Y4) (t35 : Y4) (t36 : Int) (t37 : Int) : Option ((Y4 × (Bool × Unit)) × Unit) :=
  rec f2 l8 m9 list11 t35 t36 (IntKind.i64.wrap (t37 + (1 : Int)))
def zz73_b6 (L9 : Y4 → Y1 → Y1 → Y4 → Int → Y4 → Int → Int → Y4 → Int → Int → Option ((Y4 × (Bool × Unit)) × Unit)) (k : Y4 → Option ((Y4 × (Bool × Unit)) × Unit)) (f2 : Y4) (l8 : Y1) (m9 : Y1) (list11 : Y4) (t35 : Y4) (t36 : Int) (t37 : Int) : Option ((Y4 × (Bool × Unit)) × Unit) :=
  cond (decide (t37 < t36))
  ((atI t35 t37).bind fun _ =>
  (t35[t37.toNat]?).bind fun xq4 =>
  (zz59 l8).bind fun rq5 =>
  L9 f2 l8 m9 list11 xq4 t35 t36 t37 rq5.1 (rq5.1.length : Int) (0 : Int))
  (k list11)
def zz73_a6 (list11 : Y4) : Option ((Y4 × (Bool × Unit)) × Unit) :=
  some ((list11, true, ()), (()))
def zz73_s (L6 : Y4 → Y1 → Y1 → Y4 → Y4 → Int → Int → Option ((Y4 × (Bool × Unit)) × Unit)) (p_0 : Y2) (q_1 : Y2) (f_2 : Y4) : Option ((Y4 × (Bool × Unit)) × Unit) :=
  (zz53 p_0 q_1).bind fun rq1 =>
  cond (!rq1.1.2.2.1)
  (some (([], false, ()), (())))
  ((zz72 big rq1.1.1 rq1.1.2.1 f_2).bind fun rq2 =>
  cond (!rq2.1)
  (some (([], false, ()), (())))
  ((zz59 rq1.1.2.1).bind fun rq3 =>
  L6 f_2 rq1.1.1 rq1.1.2.1 [] rq3.1 (rq3.1.length : Int) (0 : Int)))
def zz73_l9 (N : Nat) (k : Y4 → Y1 → Y1 → Y4 → Y4 → Int → Int → Option ((Y4 × (Bool × Unit)) × Unit)) : Nat → Y4 → Y1 → Y1 → Y4 → Int → Y4 → Int → Int → Y4 → Int → Int → Option ((Y4 × (Bool × Unit)) × Unit)
  | 0, _, _, _, _, _, _, _, _, _, _, _ => none
  | m + 1, f2, l8, m9, list11, atom13, t35, t36, t37, t42, t43, t44 => zz73_b9 k (zz73_l9 N k m) f2 l8 m9 list11 atom13 t35 t36 t37 t42 t43 t44
def zz73_F9 (N : Nat) (rec : Y4 → Y1 → Y1 → Y4 → Y4 → Int → Int → Option ((Y4 × (Bool × Unit)) × Unit)) (k : Y4 → Option ((Y4 × (Bool × Unit)) × Unit)) (f2 : Y4) (l8 : Y1) (m9 : Y1) (list11 : Y4) (atom13 : Int) (t35 : Y4) (t36 : Int) (t37 : Int) (t42 : Y4) (t43 : Int) (t44 : Int) : Option ((Y4 × (Bool × Unit)) × Unit) := zz73_l9 N (zz73_a9 rec) N f2 l8 m9 list11 atom13 t35 t36 t37 t42 t43 t44
def zz73_l6 (N : Nat) (k : Y4 → Option ((Y4 × (Bool × Unit)) × Unit)) : Nat → Y4 → Y1 → Y1 → Y4 → Y4 → Int → Int → Option ((Y4 × (Bool × Unit)) × Unit)
  | 0, _, _, _, _, _, _, _ => none
  | m + 1, f2, l8, m9, list11, t35, t36, t37 => zz73_b6 (zz73_F9 N (zz73_l6 N k m) k) k f2 l8 m9 list11 t35 t36 t37
def zz73_F6 (N : Nat) (f2 : Y4) (l8 : Y1) (m9 : Y1) (list11 : Y4) (t35 : Y4) (t36 : Int) (t37 : Int) : Option ((Y4 × (Bool × Unit)) × Unit) := zz73_l6 N (zz73_a6) N f2 l8 m9 list11 t35 t36 t37
def zz73 (N : Nat) (p_0 : Y2) (q_1 : Y2) (f_2 : Y4) : Option ((Y4 × (Bool × Unit)) × Unit) := zz73_s (zz73_F6 N) p_0 q_1 f_2
def S_zz73 : Sig := { a := (.pair (.pair (.sl (.sl I)) .unit) (.pair (.pair (.sl (.sl I)) .unit) (.pair (.sl I) .unit))), md := [0, 0, 0], mf := [], m := .unit, r := (.tup (.pair (.sl I) (.pair .bool .unit))), rf := (.p (.o .i) .i), f := fun x => zz73 big x.1 x.2.1 x.2.2.1 }
def A_zz73 : Cfg := mkCfg tab [(100, S_zz53), (104, S_zz72), (98, S_zz59)] [(12, [.drop, .drop, .as (.sl I) .i, .drop, .drop, .drop, .drop, .drop, .as (.opt (.pair (.sl (.sl .bool)) (.pair (.sl (.sl I)) (.pair (.sl (.sl I)) .unit)))) .i, .as (.opt (.pair (.sl (.sl .bool)) (.pair (.sl (.sl I)) (.pair (.sl (.sl I)) .unit)))) .i, .drop, .as (.sl I) (.o .i), .drop, .drop, .drop, .drop, .drop, .drop, .drop, .drop, .drop, .drop, .drop, .drop, .drop, .drop, .drop, .drop, .drop, .drop, .drop, .drop, .drop, .drop, .drop, .as (.sl I) (.o .i), .as I .i, .as I .i]), (18, [.drop, .drop, .as (.sl I) .i, .drop, .drop, .drop, .drop, .drop, .as (.opt (.pair (.sl (.sl .bool)) (.pair (.sl (.sl I)) (.pair (.sl (.sl I)) .unit)))) .i, .as (.opt (.pair (.sl (.sl .bool)) (.pair (.sl (.sl I)) (.pair (.sl (.sl I)) .unit)))) .i, .drop, .as (.sl I) (.o .i), .drop, .as I .i, .drop, .drop, .drop, .drop, .drop, .drop, .drop, .drop, .drop, .drop, .drop, .drop, .drop, .drop, .drop, .drop, .drop, .drop, .drop, .drop, .drop, .as (.sl I) (.o .i), .as I .i, .as I .i, .drop, .drop, .drop, .drop, .as (.sl I) (.o .i), .as I .i, .as I .i]), (31, [.drop, .drop, .drop, .drop, .drop, .drop, .drop, .drop, .drop, .drop, .drop, .as (.sl I) (.o .i)]), (29, [.drop, .drop, .as (.sl I) .i, .drop, .drop, .drop, .drop, .drop, .as (.opt (.pair (.sl (.sl .bool)) (.pair (.sl (.sl I)) (.pair (.sl (.sl I)) .unit)))) .i, .as (.opt (.pair (.sl (.sl .bool)) (.pair (.sl (.sl I)) (.pair (.sl (.sl I)) .unit)))) .i, .drop, .as (.sl I) (.o .i), .drop, .drop, .drop, .drop, .drop, .drop, .drop, .drop, .drop, .drop, .drop, .drop, .drop, .drop, .drop, .drop, .drop, .drop, .drop, .drop, .drop, .drop, .drop, .as (.sl I) (.o .i), .as I .i, .as I .i])]
noncomputable def zz73_R6 (N n : Nat) (K : Ex → St → Option ((Y4 × (Bool × Unit)) × Unit)) (f2 : Y4) (l8 : Y1) (m9 : Y1) (list11 : Y4) (t35 : Y4) (t36 : Int) (t37 : Int) : Option ((Y4 × (Bool × Unit)) × Unit) := iter ((A_zz73).shape 12) (run (A_zz73) N (codeAt Try.f50 [1, 1, 1, 1, 0, 1, 0, 0])) n ([.u, .u, .val (.sl I) .i f2, .u, .u, .u, .u, .u, .val (.opt (.pair (.sl (.sl .bool)) (.pair (.sl (.sl I)) (.pair (.sl (.sl I)) .unit)))) .i l8, .val (.opt (.pair (.sl (.sl .bool)) (.pair (.sl (.sl I)) (.pair (.sl (.sl I)) .unit)))) .i m9, .u, .val (.sl I) (.o .i) list11, .u, .u, .u, .u, .u, .u, .u, .u, .u, .u, .u, .u, .u, .u, .u, .u, .u, .u, .u, .u, .u, .u, .u, .val (.sl I) (.o .i) t35, .val I .i t36, .val I .i t37] ++ List.replicate 31 .u) K
noncomputable def zz73_R9 (N n : Nat) (K : Ex → St → Option ((Y4 × (Bool × Unit)) × Unit)) (f2 : Y4) (l8 : Y1) (m9 : Y1) (list11 : Y4) (atom13 : Int) (t35 : Y4) (t36 : Int) (t37 : Int) (t42 : Y4) (t43 : Int) (t44 : Int) : Option ((Y4 × (Bool × Unit)) × Unit) := iter ((A_zz73).shape 18) (run (A_zz73) N (codeAt Try.f50 [1, 1, 1, 1, 0, 1, 0, 0, 1, 1, 0, 0, 1, 1, 0, 0])) n ([.u, .u, .val (.sl I) .i f2, .u, .u, .u, .u, .u, .val (.opt (.pair (.sl (.sl .bool)) (.pair (.sl (.sl I)) (.pair (.sl (.sl I)) .unit)))) .i l8, .val (.opt (.pair (.sl (.sl .bool)) (.pair (.sl (.sl I)) (.pair (.sl (.sl I)) .unit)))) .i m9, .u, .val (.sl I) (.o .i) list11, .u, .val I .i atom13, .u, .u, .u, .u, .u, .u, .u, .u, .u, .u, .u, .u, .u, .u, .u, .u, .u, .u, .u, .u, .u, .val (.sl I) (.o .i) t35, .val I .i t36, .val I .i t37, .u, .u, .u, .u, .val (.sl I) (.o .i) t42, .val I .i t43, .val I .i t44] ++ List.replicate 24 .u) K
noncomputable abbrev zz73_z : Ex → St → Option ((Y4 × (Bool × Unit)) × Unit) := finish (A_zz73) S_zz73 Try.f50.results.toList
noncomputable abbrev zz73_X6 (kX : St → Option ((Y4 × (Bool × Unit)) × Unit)) : Y4 → Option ((Y4 × (Bool × Unit)) × Unit) := fun (list11 : Y4) => kX ([.u, .u, .u, .u, .u, .u, .u, .u, .u, .u, .u, .val (.sl I) (.o .i) list11] ++ List.replicate 57 .u)
noncomputable abbrev zz73_E6 (kX : St → Option ((Y4 × (Bool × Unit)) × Unit)) (kO : Nat → St → Option ((Y4 × (Bool × Unit)) × Unit)) : Ex → St → Option ((Y4 × (Bool × Unit)) × Unit) := exK zz73_z 0 ((A_zz73).shape 31) kX kO
noncomputable abbrev zz73_X9 (kX : St → Option ((Y4 × (Bool × Unit)) × Unit)) : Y4 → Y1 → Y1 → Y4 → Y4 → Int → Int → Option ((Y4 × (Bool × Unit)) × Unit) := fun (f2 : Y4) (l8 : Y1) (m9 : Y1) (list11 : Y4) (t35 : Y4) (t36 : Int) (t37 : Int) => kX ([.u, .u, .val (.sl I) .i f2, .u, .u, .u, .u, .u, .val (.opt (.pair (.sl (.sl .bool)) (.pair (.sl (.sl I)) (.pair (.sl (.sl I)) .unit)))) .i l8, .val (.opt (.pair (.sl (.sl .bool)) (.pair (.sl (.sl I)) (.pair (.sl (.sl I)) .unit)))) .i m9, .u, .val (.sl I) (.o .i) list11, .u, .u, .u, .u, .u, .u, .u, .u, .u, .u, .u, .u, .u, .u, .u, .u, .u, .u, .u, .u, .u, .u, .u, .val (.sl I) (.o .i) t35, .val I .i t36, .val I .i t37] ++ List.replicate 31 .u)
noncomputable abbrev zz73_E9 (kX : St → Option ((Y4 × (Bool × Unit)) × Unit)) (kO : Nat → St → Option ((Y4 × (Bool × Unit)) × Unit)) : Ex → St → Option ((Y4 × (Bool × Unit)) × Unit) := exK zz73_z 2 ((A_zz73).shape 29) kX kO
theorem zz73_step9 (N : Nat) (m : Nat) (kX : St → Option ((Y4 × (Bool × Unit)) × Unit)) (kO : Nat → St → Option ((Y4 × (Bool × Unit)) × Unit)) (f2 : Y4) (l8 : Y1) (m9 : Y1) (list11 : Y4) (atom13 : Int) (t35 : Y4) (t36 : Int) (t37 : Int) (t42 : Y4) (t43 : Int) (t44 : Int) : zz73_R9 N (m + 1) (zz73_E9 kX kO) f2 l8 m9 list11 atom13 t35 t36 t37 t42 t43 t44 = zz73_b9 (zz73_X9 kX) (zz73_R9 N m (zz73_E9 kX kO)) f2 l8 m9 list11 atom13 t35 t36 t37 t42 t43 t44 := by kernel_rfl
theorem zz73_iter9 (N : Nat) (kX : St → Option ((Y4 × (Bool × Unit)) × Unit)) (kO : Nat → St → Option ((Y4 × (Bool × Unit)) × Unit)) : ∀ (n : Nat) (f2 : Y4) (l8 : Y1) (m9 : Y1) (list11 : Y4) (atom13 : Int) (t35 : Y4) (t36 : Int) (t37 : Int) (t42 : Y4) (t43 : Int) (t44 : Int), zz73_R9 N n (zz73_E9 kX kO) f2 l8 m9 list11 atom13 t35 t36 t37 t42 t43 t44 = zz73_l9 N (zz73_X9 kX) n f2 l8 m9 list11 atom13 t35 t36 t37 t42 t43 t44
  | 0, _, _, _, _, _, _, _, _, _, _, _ => rfl
  | m + 1, f2, l8, m9, list11, atom13, t35, t36, t37, t42, t43, t44 => by
    have hrec : zz73_R9 N m (zz73_E9 kX kO) = (zz73_l9 N (zz73_X9 kX) m) := (funext fun f2 => (funext fun l8 => (funext fun m9 => (funext fun list11 => (funext fun atom13 => (funext fun t35 => (funext fun t36 => (funext fun t37 => (funext fun t42 => (funext fun t43 => (funext fun t44 => zz73_iter9 N kX kO m f2 l8 m9 list11 atom13 t35 t36 t37 t42 t43 t44)))))))))))
    refine (zz73_step9 N m kX kO f2 l8 m9 list11 atom13 t35 t36 t37 t42 t43 t44).trans ?_
    rw [hrec]
    rfl
noncomputable abbrev zz73_K9 (N : Nat) (m : Nat) (kX : St → Option ((Y4 × (Bool × Unit)) × Unit)) (kO : Nat → St → Option ((Y4 × (Bool × Unit)) × Unit)) : Ex → St → Option ((Y4 × (Bool × Unit)) × Unit) := (blockK 2 (blockK 1 (seqK ((A_zz73).shape 29) (run (A_zz73) N (codeAt Try.f50 [1, 1, 1, 1, 0, 1, 0, 0, 1, 1, 1])) (iterK ((A_zz73).shape 12) (run (A_zz73) N (codeAt Try.f50 [1, 1, 1, 1, 0, 1, 0, 0])) m (zz73_E6 kX kO)))))
noncomputable abbrev zz73_k9 (N : Nat) (m : Nat) (kX : St → Option ((Y4 × (Bool × Unit)) × Unit)) (kO : Nat → St → Option ((Y4 × (Bool × Unit)) × Unit)) : St → Option ((Y4 × (Bool × Unit)) × Unit) := fun st' => run (A_zz73) N (codeAt Try.f50 [1, 1, 1, 1, 0, 1, 0, 0, 1, 1, 1]) st' (iterK ((A_zz73).shape 12) (run (A_zz73) N (codeAt Try.f50 [1, 1, 1, 1, 0, 1, 0, 0])) m (zz73_E6 kX kO))
theorem zz73_after9 (N : Nat) (m : Nat) (kX : St → Option ((Y4 × (Bool × Unit)) × Unit)) (kO : Nat → St → Option ((Y4 × (Bool × Unit)) × Unit)) (f2 : Y4) (l8 : Y1) (m9 : Y1) (list11 : Y4) (t35 : Y4) (t36 : Int) (t37 : Int) : zz73_X9 (zz73_k9 N m kX kO) f2 l8 m9 list11 t35 t36 t37 = zz73_a9 (zz73_R6 N m (zz73_E6 kX kO)) f2 l8 m9 list11 t35 t36 t37 := by kernel_rfl
theorem zz73_in9 (N : Nat) (m : Nat) (kX : St → Option ((Y4 × (Bool × Unit)) × Unit)) (kO : Nat → St → Option ((Y4 × (Bool × Unit)) × Unit)) (recF : Y4 → Y1 → Y1 → Y4 → Y4 → Int → Int → Option ((Y4 × (Bool × Unit)) × Unit)) (hrec : zz73_R6 N m (zz73_E6 kX kO) = recF) (f2 : Y4) (l8 : Y1) (m9 : Y1) (list11 : Y4) (atom13 : Int) (t35 : Y4) (t36 : Int) (t37 : Int) (t42 : Y4) (t43 : Int) (t44 : Int) : zz73_R9 N N (zz73_K9 N m kX kO) f2 l8 m9 list11 atom13 t35 t36 t37 t42 t43 t44 = zz73_F9 N recF (zz73_X6 kX) f2 l8 m9 list11 atom13 t35 t36 t37 t42 t43 t44 :=
  have h : zz73_X9 (zz73_k9 N m kX kO) = (zz73_a9 recF) := (funext fun f2 => (funext fun l8 => (funext fun m9 => (funext fun list11 => (funext fun t35 => (funext fun t36 => (funext fun t37 => (zz73_after9 N m kX kO f2 l8 m9 list11 t35 t36 t37).trans (by rw [hrec]))))))))
  ((iter_ex (fun st => by kernel_rfl) (fun st => by kernel_rfl)).trans (zz73_iter9 N (zz73_k9 N m kX kO) (fun j st => (zz73_K9 N m kX kO) (.exit j) st) N f2 l8 m9 list11 atom13 t35 t36 t37 t42 t43 t44)).trans (congrArg (fun k => zz73_l9 N k N f2 l8 m9 list11 atom13 t35 t36 t37 t42 t43 t44) h)
theorem zz73_step6 (N : Nat) (m : Nat) (kX : St → Option ((Y4 × (Bool × Unit)) × Unit)) (kO : Nat → St → Option ((Y4 × (Bool × Unit)) × Unit)) (f2 : Y4) (l8 : Y1) (m9 : Y1) (list11 : Y4) (t35 : Y4) (t36 : Int) (t37 : Int) : zz73_R6 N (m + 1) (zz73_E6 kX kO) f2 l8 m9 list11 t35 t36 t37 = zz73_b6 (zz73_R9 N N (zz73_K9 N m kX kO)) (zz73_X6 kX) f2 l8 m9 list11 t35 t36 t37 := by kernel_rfl
theorem zz73_iter6 (N : Nat) (kX : St → Option ((Y4 × (Bool × Unit)) × Unit)) (kO : Nat → St → Option ((Y4 × (Bool × Unit)) × Unit)) : ∀ (n : Nat) (f2 : Y4) (l8 : Y1) (m9 : Y1) (list11 : Y4) (t35 : Y4) (t36 : Int) (t37 : Int), zz73_R6 N n (zz73_E6 kX kO) f2 l8 m9 list11 t35 t36 t37 = zz73_l6 N (zz73_X6 kX) n f2 l8 m9 list11 t35 t36 t37
  | 0, _, _, _, _, _, _, _ => rfl
  | m + 1, f2, l8, m9, list11, t35, t36, t37 => by
    have hrec : zz73_R6 N m (zz73_E6 kX kO) = (zz73_l6 N (zz73_X6 kX) m) := (funext fun f2 => (funext fun l8 => (funext fun m9 => (funext fun list11 => (funext fun t35 => (funext fun t36 => (funext fun t37 => zz73_iter6 N kX kO m f2 l8 m9 list11 t35 t36 t37)))))))
    refine (zz73_step6 N m kX kO f2 l8 m9 list11 t35 t36 t37).trans ?_
    rw [(funext fun f2 => (funext fun l8 => (funext fun m9 => (funext fun list11 => (funext fun atom13 => (funext fun t35 => (funext fun t36 => (funext fun t37 => (funext fun t42 => (funext fun t43 => (funext fun t44 => zz73_in9 N m kX kO (zz73_l6 N (zz73_X6 kX) m) hrec f2 l8 m9 list11 atom13 t35 t36 t37 t42 t43 t44)))))))))))]
    rfl
noncomputable abbrev zz73_K6 (N : Nat) : Ex → St → Option ((Y4 × (Bool × Unit)) × Unit) := (blockK 0 (seqK ((A_zz73).shape 31) (run (A_zz73) N (codeAt Try.f50 [1, 1, 1, 1, 1])) zz73_z))
noncomputable abbrev zz73_k6 (N : Nat) : St → Option ((Y4 × (Bool × Unit)) × Unit) := fun st' => run (A_zz73) N (codeAt Try.f50 [1, 1, 1, 1, 1]) st' zz73_z
theorem zz73_after6 (N : Nat) (list11 : Y4) : zz73_X6 (zz73_k6 N) list11 = zz73_a6 list11 := by kernel_rfl
theorem zz73_in6 (N : Nat) (f2 : Y4) (l8 : Y1) (m9 : Y1) (list11 : Y4) (t35 : Y4) (t36 : Int) (t37 : Int) : zz73_R6 N N (zz73_K6 N) f2 l8 m9 list11 t35 t36 t37 = zz73_F6 N f2 l8 m9 list11 t35 t36 t37 :=
  have h : zz73_X6 (zz73_k6 N) = (zz73_a6) := (funext fun list11 => zz73_after6 N list11)
  ((iter_ex (fun st => by kernel_rfl) (fun st => by kernel_rfl)).trans (zz73_iter6 N (zz73_k6 N) (fun j st => (zz73_K6 N) (.exit j) st) N f2 l8 m9 list11 t35 t36 t37)).trans (congrArg (fun k => zz73_l6 N k N f2 l8 m9 list11 t35 t36 t37) h)
theorem run0_zz73 (N : Nat) (x : (S_zz73).a.den) : runF (A_zz73) N Try.f50 S_zz73 x = (zz73_s (zz73_R6 N N (zz73_K6 N)) x.1 x.2.1 x.2.2.1) := by kernel_rfl
theorem run_zz73 (N : Nat) (x : (S_zz73).a.den) : runF (A_zz73) N Try.f50 S_zz73 x = zz73 N x.1 x.2.1 x.2.2.1 := by
  refine (run0_zz73 N x).trans ?_
  rw [(funext fun f2 => (funext fun l8 => (funext fun m9 => (funext fun list11 => (funext fun t35 => (funext fun t36 => (funext fun t37 => zz73_in6 N f2 l8 m9 list11 t35 t36 t37)))))))]
  rfl
theorem fn_zz73 : FnOk Try.prog 50 := ⟨_, Try.func50, by kernel_rfl, by kernel_rfl⟩
theorem good_zz73 : Gx.Good Try.prog 50 S_zz73 := good_of_run Try.func50 (of_decide_eq_true (by kernel_rfl)) fun x r h => ⟨A_zz73, big, mkCfg_ok tabOk, mkCfg_sigs (show SigsOk Try.prog [(100, S_zz53), (104, S_zz72), (98, S_zz59)] from ⟨⟨fn_zz53, good_zz53⟩, ⟨fn_zz72, good_zz72⟩, ⟨fn_zz59, good_zz59⟩, trivial⟩), (run_zz73 big x).trans h⟩

/-! laws_FnExactAtomMapOf -/
def laws_FnExactAtomMapOf_s (aP_0 : Y2) (aQ_1 : Y2) (aF_2 : Y4) : Option (Bool × Unit) :=
  cond (decide ((1048576 : Int) < (aF_2.length : Int)))
  (some (true, (())))
  ((zz2 aP_0 (1048576 : Int)).bind fun rq1 =>
  cond (decide (rq1.1 < (0 : Int)))
  (some (true, (())))
  ((zz2 aQ_1 rq1.1).bind fun rq2 =>
  cond (decide (rq2.1 < (0 : Int)))
  (some (true, (())))
  ((zz5 aP_0).bind fun rq3 =>
  (zz5 aQ_1).bind fun rq4 =>
  (zz3 big aF_2).bind fun rq5 =>
  (zz70 big rq3.1 rq4.1 rq5.1).bind fun rq6 =>
  (zz5 aP_0).bind fun rq7 =>
  (zz5 aQ_1).bind fun rq8 =>
  (zz3 big aF_2).bind fun rq9 =>
  (zz73 big rq7.1 rq8.1 rq9.1).bind fun rq10 =>
  (zz62 big rq10.1.1 rq6.1.1).bind fun rq11 =>
  cond (!rq11.1)
  (some (false, (())))
  (cond (((((), rq10.1.2).2).1) != rq6.1.2.1)
  (some (false, (())))
  ((zz5 aP_0).bind fun rq12 =>
  (zz64 rq7.1 rq12.1).bind fun rq13 =>
  cond (!rq13.1)
  (some (false, (())))
  ((zz5 aQ_1).bind fun rq14 =>
  (zz64 rq8.1 rq14.1).bind fun rq15 =>
  cond (!rq15.1)
  (some (false, (())))
  ((zz3 big aF_2).bind fun rq16 =>
  (zz62 big rq9.1 rq16.1).bind fun rq17 =>
  cond (!rq17.1)
  (some (false, (())))
  ((zz67 rq7.1 (1 : Int)).bind fun rq18 =>
  (zz67 rq8.1 rq18.1).bind fun rq19 =>
  (zz65 big rq9.1 rq19.1).bind fun rq20 =>
  cond (decide (rq20.1 < (0 : Int)))
  (some (false, (())))
  ((zz62 big rq10.1.1 rq6.1.1).bind fun rq21 =>
  cond (!rq21.1)
  (some (false, (())))
  (cond (((((), rq10.1.2).2).1) != rq6.1.2.1)
  (some (false, (())))
  ((zz65 big rq10.1.1 (1 : Int)).bind fun rq22 =>
  (zz68 big rq22.2.1 (1 : Int)).bind fun rq23 =>
  cond (decide (rq23.1 < (0 : Int)))
  (some (false, (())))
  (cond (decide (rq23.1 ≠ rq22.1))
  (some (false, (())))
  ((zz5 aP_0).bind fun rq24 =>
  (zz5 aQ_1).bind fun rq25 =>
  (zz3 big aF_2).bind fun rq26 =>
  (zz73 big rq24.1 rq25.1 rq26.1).bind fun rq27 =>
  (zz62 big rq27.1.1 rq6.1.1).bind fun rq28 =>
  cond (!rq28.1)
  (some (false, (())))
  (cond (rq27.1.2.1 != rq6.1.2.1)
  (some (false, (())))
  ((zz68 big rq22.2.1 (1 : Int)).bind fun rq29 =>
  cond (decide (rq29.1 < (0 : Int)))
  (some (false, (())))
  (cond (decide (rq29.1 ≠ rq22.1))
  (some (false, (())))
  (some (true, (())))))))))))))))))))
def laws_FnExactAtomMapOf (aP_0 : Y2) (aQ_1 : Y2) (aF_2 : Y4) : Option (Bool × Unit) := laws_FnExactAtomMapOf_s aP_0 aQ_1 aF_2
def S_laws_FnExactAtomMapOf : Sig := { a := (.pair (.pair (.sl (.sl I)) .unit) (.pair (.pair (.sl (.sl I)) .unit) (.pair (.sl I) .unit))), md := [0, 0, 0], mf := [], m := .unit, r := .bool, rf := .i, f := fun x => laws_FnExactAtomMapOf x.1 x.2.1 x.2.2.1 }
def A_laws_FnExactAtomMapOf : Cfg := mkCfg tab [(15, S_zz2), (17, S_zz5), (43, S_zz3), (49, S_zz70), (50, S_zz73), (19, S_zz62), (20, S_zz64), (21, S_zz67), (22, S_zz65), (23, S_zz68)] []
theorem run_laws_FnExactAtomMapOf (N : Nat) (x : (S_laws_FnExactAtomMapOf).a.den) : runF (A_laws_FnExactAtomMapOf) N Try.f13 S_laws_FnExactAtomMapOf x = laws_FnExactAtomMapOf x.1 x.2.1 x.2.2.1 := by kernel_rfl
theorem fn_laws_FnExactAtomMapOf : FnOk Try.prog 13 := ⟨_, Try.func13, by kernel_rfl, by kernel_rfl⟩
theorem good_laws_FnExactAtomMapOf : Gx.Good Try.prog 13 S_laws_FnExactAtomMapOf := good_of_run Try.func13 (of_decide_eq_true (by kernel_rfl)) fun x r h => ⟨A_laws_FnExactAtomMapOf, big, mkCfg_ok tabOk, mkCfg_sigs (show SigsOk Try.prog [(15, S_zz2), (17, S_zz5), (43, S_zz3), (49, S_zz70), (50, S_zz73), (19, S_zz62), (20, S_zz64), (21, S_zz67), (22, S_zz65), (23, S_zz68)] from ⟨⟨fn_zz2, good_zz2⟩, ⟨fn_zz5, good_zz5⟩, ⟨fn_zz3, good_zz3⟩, ⟨fn_zz70, good_zz70⟩, ⟨fn_zz73, good_zz73⟩, ⟨fn_zz62, good_zz62⟩, ⟨fn_zz64, good_zz64⟩, ⟨fn_zz67, good_zz67⟩, ⟨fn_zz65, good_zz65⟩, ⟨fn_zz68, good_zz68⟩, trivial⟩), (run_laws_FnExactAtomMapOf big x).trans h⟩
end Go.Proofs.Ytafkhhcnmmkieaa
