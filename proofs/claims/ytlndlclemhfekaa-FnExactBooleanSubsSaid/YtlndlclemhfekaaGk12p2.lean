import Derived.Test.YtlndlclemhfekaaGk12p1
set_option maxRecDepth 100000
set_option linter.unusedVariables false
namespace Go.Proofs.Ytlndlclemhfekaa
open Go Go.Gx Go.Proofs

/-! zz38 -/
def zz38_b7 (rec : Y5 → Y3 → Int → Y4 → Int → Int → Int → Int → Option ((Y3 × (Bool × Unit)) × Unit)) (k : Y5 → Y3 → Y4 → Int → Int → Option ((Y3 × (Bool × Unit)) × Unit)) (o1 : Y5) (table4 : Y3) (x5 : Int) (row6 : Y4) (t11 : Int) (t12 : Int) (t17 : Int) (t18 : Int) : Option ((Y3 × (Bool × Unit)) × Unit) :=
  cond (decide (t18 < t17))
  ((zz37 big o1 (o1, x5, t18, ())).bind fun rq1 =>
  (zz35 big o1 rq1.1).bind fun rq2 =>
  cond (decide (rq2.1 < (0 : Int)))
  (some (([], false, ()), (())))
  ((appI row6 [rq2.1]).bind fun xq3 =>
  rec o1 table4 x5 xq3 t11 t12 t17 (IntKind.i64.wrap (t18 + (1 : Int)))))
  (k o1 table4 row6 t11 t12)
def zz38_a7 (rec : Y5 → Y3 → Int → Int → Option ((Y3 × (Bool × Unit)) × Unit)) (o1 : Y5) (table4 : Y3) (row6 : Y4) (t11 : Int) (t12 : Int) : Option ((Y3 × (Bool × Unit)) × Unit) :=
  (appI table4 [row6]).bind fun xq4 =>
  rec o1 xq4 t11 (IntKind.i64.wrap (t12 + (1 : Int)))
def zz38_b3 (L7 : Y5 → Y3 → Int → Y4 → Int → Int → Int → Int → Option ((Y3 × (Bool × Unit)) × Unit)) (k : Y3 → Option ((Y3 × (Bool × Unit)) × Unit)) (o1 : Y5) (table4 : Y3) (t11 : Int) (t12 : Int) : Option ((Y3 × (Bool × Unit)) × Unit) :=
  cond (decide (t12 < t11))
  (L7 o1 table4 t12 [] t11 t12 (o1.length : Int) (0 : Int))
  (k table4)
def zz38_a3 (table4 : Y3) : Option ((Y3 × (Bool × Unit)) × Unit) :=
  some ((table4, true, ()), (()))
def zz38_s (L3 : Y5 → Y3 → Int → Int → Option ((Y3 × (Bool × Unit)) × Unit)) (o_0 : Y5) : Option ((Y3 × (Bool × Unit)) × Unit) :=
  L3 o_0 [] (o_0.length : Int) (0 : Int)
def zz38_l7 (N : Nat) (k : Y5 → Y3 → Y4 → Int → Int → Option ((Y3 × (Bool × Unit)) × Unit)) : Nat → Y5 → Y3 → Int → Y4 → Int → Int → Int → Int → Option ((Y3 × (Bool × Unit)) × Unit)
  | 0, _, _, _, _, _, _, _, _ => none
  | m + 1, o1, table4, x5, row6, t11, t12, t17, t18 => zz38_b7 (zz38_l7 N k m) k o1 table4 x5 row6 t11 t12 t17 t18
def zz38_F7 (N : Nat) (rec : Y5 → Y3 → Int → Int → Option ((Y3 × (Bool × Unit)) × Unit)) (k : Y3 → Option ((Y3 × (Bool × Unit)) × Unit)) (o1 : Y5) (table4 : Y3) (x5 : Int) (row6 : Y4) (t11 : Int) (t12 : Int) (t17 : Int) (t18 : Int) : Option ((Y3 × (Bool × Unit)) × Unit) := zz38_l7 N (zz38_a7 rec) N o1 table4 x5 row6 t11 t12 t17 t18
def zz38_l3 (N : Nat) (k : Y3 → Option ((Y3 × (Bool × Unit)) × Unit)) : Nat → Y5 → Y3 → Int → Int → Option ((Y3 × (Bool × Unit)) × Unit)
  | 0, _, _, _, _ => none
  | m + 1, o1, table4, t11, t12 => zz38_b3 (zz38_F7 N (zz38_l3 N k m) k) k o1 table4 t11 t12
def zz38_F3 (N : Nat) (o1 : Y5) (table4 : Y3) (t11 : Int) (t12 : Int) : Option ((Y3 × (Bool × Unit)) × Unit) := zz38_l3 N (zz38_a3) N o1 table4 t11 t12
def zz38 (N : Nat) (o_0 : Y5) : Option ((Y3 × (Bool × Unit)) × Unit) := zz38_s (zz38_F3 N) o_0
def S_zz38 : Sig := { a := (.pair (.sl (.sl .bool)) .unit), md := [0], mf := [], m := .unit, r := (.tup (.pair (.sl (.sl I)) (.pair .bool .unit))), rf := (.p (.o (.o .i)) .i), f := fun x => zz38 big x.1 }
def A_zz38 : Cfg := mkCfg tab [(68, S_zz37), (95, S_zz35)] [(6, [.drop, .as (.ptr (.sl (.sl .bool))) .i, .drop, .drop, .as (.sl (.sl I)) (.o (.o .i)), .drop, .drop, .drop, .drop, .drop, .drop, .as I .i, .as I .i]), (14, [.drop, .as (.ptr (.sl (.sl .bool))) .i, .drop, .drop, .as (.sl (.sl I)) (.o (.o .i)), .as (.ptr I) .i, .as (.sl I) (.o .i), .drop, .drop, .drop, .drop, .as I .i, .as I .i, .drop, .drop, .drop, .drop, .as I .i, .as I .i]), (33, [.drop, .drop, .drop, .drop, .as (.sl (.sl I)) (.o (.o .i))]), (19, [.drop, .as (.ptr (.sl (.sl .bool))) .i, .drop, .drop, .as (.sl (.sl I)) (.o (.o .i)), .as (.ptr I) .i, .as (.sl I) (.o .i), .as (.ptr I) .i, .drop, .drop, .drop, .as I .i, .as I .i, .drop, .drop, .drop, .drop, .as I .i, .as I .i]), (29, [.drop, .as (.ptr (.sl (.sl .bool))) .i, .drop, .drop, .as (.sl (.sl I)) (.o (.o .i)), .drop, .as (.sl I) (.o .i), .drop, .drop, .drop, .drop, .as I .i, .as I .i])]
noncomputable def zz38_R3 (N n : Nat) (K : Ex → St → Option ((Y3 × (Bool × Unit)) × Unit)) (o1 : Y5) (table4 : Y3) (t11 : Int) (t12 : Int) : Option ((Y3 × (Bool × Unit)) × Unit) := iter ((A_zz38).shape 6) (run (A_zz38) N (codeAt Try.f65 [1, 1, 0, 1, 0, 0])) n ([.u, .val (.ptr (.sl (.sl .bool))) .i o1, .u, .u, .val (.sl (.sl I)) (.o (.o .i)) table4, .u, .u, .u, .u, .u, .u, .val I .i t11, .val I .i t12] ++ List.replicate 26 .u) K
noncomputable def zz38_R7 (N n : Nat) (K : Ex → St → Option ((Y3 × (Bool × Unit)) × Unit)) (o1 : Y5) (table4 : Y3) (x5 : Int) (row6 : Y4) (t11 : Int) (t12 : Int) (t17 : Int) (t18 : Int) : Option ((Y3 × (Bool × Unit)) × Unit) := iter ((A_zz38).shape 14) (run (A_zz38) N (codeAt Try.f65 [1, 1, 0, 1, 0, 0, 1, 1, 0, 0, 1, 1, 0, 1, 0, 0])) n ([.u, .val (.ptr (.sl (.sl .bool))) .i o1, .u, .u, .val (.sl (.sl I)) (.o (.o .i)) table4, .val (.ptr I) .i x5, .val (.sl I) (.o .i) row6, .u, .u, .u, .u, .val I .i t11, .val I .i t12, .u, .u, .u, .u, .val I .i t17, .val I .i t18] ++ List.replicate 20 .u) K
noncomputable abbrev zz38_z : Ex → St → Option ((Y3 × (Bool × Unit)) × Unit) := finish (A_zz38) S_zz38 Try.f65.results.toList
noncomputable abbrev zz38_X3 (kX : St → Option ((Y3 × (Bool × Unit)) × Unit)) : Y3 → Option ((Y3 × (Bool × Unit)) × Unit) := fun (table4 : Y3) => kX ([.u, .u, .u, .u, .val (.sl (.sl I)) (.o (.o .i)) table4] ++ List.replicate 34 .u)
noncomputable abbrev zz38_E3 (kX : St → Option ((Y3 × (Bool × Unit)) × Unit)) (kO : Nat → St → Option ((Y3 × (Bool × Unit)) × Unit)) : Ex → St → Option ((Y3 × (Bool × Unit)) × Unit) := exK zz38_z 0 ((A_zz38).shape 33) kX kO
noncomputable abbrev zz38_X7 (kX : St → Option ((Y3 × (Bool × Unit)) × Unit)) : Y5 → Y3 → Y4 → Int → Int → Option ((Y3 × (Bool × Unit)) × Unit) := fun (o1 : Y5) (table4 : Y3) (row6 : Y4) (t11 : Int) (t12 : Int) => kX ([.u, .val (.ptr (.sl (.sl .bool))) .i o1, .u, .u, .val (.sl (.sl I)) (.o (.o .i)) table4, .u, .val (.sl I) (.o .i) row6, .u, .u, .u, .u, .val I .i t11, .val I .i t12] ++ List.replicate 26 .u)
noncomputable abbrev zz38_E7 (kX : St → Option ((Y3 × (Bool × Unit)) × Unit)) (kO : Nat → St → Option ((Y3 × (Bool × Unit)) × Unit)) : Ex → St → Option ((Y3 × (Bool × Unit)) × Unit) := exK zz38_z 2 ((A_zz38).shape 29) kX kO
theorem zz38_step7 (N : Nat) (m : Nat) (kX : St → Option ((Y3 × (Bool × Unit)) × Unit)) (kO : Nat → St → Option ((Y3 × (Bool × Unit)) × Unit)) (o1 : Y5) (table4 : Y3) (x5 : Int) (row6 : Y4) (t11 : Int) (t12 : Int) (t17 : Int) (t18 : Int) : zz38_R7 N (m + 1) (zz38_E7 kX kO) o1 table4 x5 row6 t11 t12 t17 t18 = zz38_b7 (zz38_R7 N m (zz38_E7 kX kO)) (zz38_X7 kX) o1 table4 x5 row6 t11 t12 t17 t18 := by kernel_rfl
theorem zz38_iter7 (N : Nat) (kX : St → Option ((Y3 × (Bool × Unit)) × Unit)) (kO : Nat → St → Option ((Y3 × (Bool × Unit)) × Unit)) : ∀ (n : Nat) (o1 : Y5) (table4 : Y3) (x5 : Int) (row6 : Y4) (t11 : Int) (t12 : Int) (t17 : Int) (t18 : Int), zz38_R7 N n (zz38_E7 kX kO) o1 table4 x5 row6 t11 t12 t17 t18 = zz38_l7 N (zz38_X7 kX) n o1 table4 x5 row6 t11 t12 t17 t18
  | 0, _, _, _, _, _, _, _, _ => rfl
  | m + 1, o1, table4, x5, row6, t11, t12, t17, t18 => by
    have hrec : zz38_R7 N m (zz38_E7 kX kO) = (zz38_l7 N (zz38_X7 kX) m) := (funext fun o1 => (funext fun table4 => (funext fun x5 => (funext fun row6 => (funext fun t11 => (funext fun t12 => (funext fun t17 => (funext fun t18 => zz38_iter7 N kX kO m o1 table4 x5 row6 t11 t12 t17 t18))))))))
    refine (zz38_step7 N m kX kO o1 table4 x5 row6 t11 t12 t17 t18).trans ?_
    rw [hrec]
    rfl
noncomputable abbrev zz38_K7 (N : Nat) (m : Nat) (kX : St → Option ((Y3 × (Bool × Unit)) × Unit)) (kO : Nat → St → Option ((Y3 × (Bool × Unit)) × Unit)) : Ex → St → Option ((Y3 × (Bool × Unit)) × Unit) := (blockK 2 (seqK ((A_zz38).shape 29) (run (A_zz38) N (codeAt Try.f65 [1, 1, 0, 1, 0, 0, 1, 1, 0, 0, 1, 1, 1])) (blockK 1 (seqK ((A_zz38).shape 31) (run (A_zz38) N (codeAt Try.f65 [1, 1, 0, 1, 0, 0, 1, 1, 1])) (iterK ((A_zz38).shape 6) (run (A_zz38) N (codeAt Try.f65 [1, 1, 0, 1, 0, 0])) m (zz38_E3 kX kO))))))
noncomputable abbrev zz38_k7 (N : Nat) (m : Nat) (kX : St → Option ((Y3 × (Bool × Unit)) × Unit)) (kO : Nat → St → Option ((Y3 × (Bool × Unit)) × Unit)) : St → Option ((Y3 × (Bool × Unit)) × Unit) := fun st' => run (A_zz38) N (codeAt Try.f65 [1, 1, 0, 1, 0, 0, 1, 1, 0, 0, 1, 1, 1]) st' (blockK 1 (seqK ((A_zz38).shape 31) (run (A_zz38) N (codeAt Try.f65 [1, 1, 0, 1, 0, 0, 1, 1, 1])) (iterK ((A_zz38).shape 6) (run (A_zz38) N (codeAt Try.f65 [1, 1, 0, 1, 0, 0])) m (zz38_E3 kX kO))))
theorem zz38_after7 (N : Nat) (m : Nat) (kX : St → Option ((Y3 × (Bool × Unit)) × Unit)) (kO : Nat → St → Option ((Y3 × (Bool × Unit)) × Unit)) (o1 : Y5) (table4 : Y3) (row6 : Y4) (t11 : Int) (t12 : Int) : zz38_X7 (zz38_k7 N m kX kO) o1 table4 row6 t11 t12 = zz38_a7 (zz38_R3 N m (zz38_E3 kX kO)) o1 table4 row6 t11 t12 := by kernel_rfl
theorem zz38_in7 (N : Nat) (m : Nat) (kX : St → Option ((Y3 × (Bool × Unit)) × Unit)) (kO : Nat → St → Option ((Y3 × (Bool × Unit)) × Unit)) (recF : Y5 → Y3 → Int → Int → Option ((Y3 × (Bool × Unit)) × Unit)) (hrec : zz38_R3 N m (zz38_E3 kX kO) = recF) (o1 : Y5) (table4 : Y3) (x5 : Int) (row6 : Y4) (t11 : Int) (t12 : Int) (t17 : Int) (t18 : Int) : zz38_R7 N N (zz38_K7 N m kX kO) o1 table4 x5 row6 t11 t12 t17 t18 = zz38_F7 N recF (zz38_X3 kX) o1 table4 x5 row6 t11 t12 t17 t18 :=
  have h : zz38_X7 (zz38_k7 N m kX kO) = (zz38_a7 recF) := (funext fun o1 => (funext fun table4 => (funext fun row6 => (funext fun t11 => (funext fun t12 => (zz38_after7 N m kX kO o1 table4 row6 t11 t12).trans (by rw [hrec]))))))
  ((iter_ex (fun st => by kernel_rfl) (fun st => by kernel_rfl)).trans (zz38_iter7 N (zz38_k7 N m kX kO) (fun j st => (zz38_K7 N m kX kO) (.exit j) st) N o1 table4 x5 row6 t11 t12 t17 t18)).trans (congrArg (fun k => zz38_l7 N k N o1 table4 x5 row6 t11 t12 t17 t18) h)
theorem zz38_step3 (N : Nat) (m : Nat) (kX : St → Option ((Y3 × (Bool × Unit)) × Unit)) (kO : Nat → St → Option ((Y3 × (Bool × Unit)) × Unit)) (o1 : Y5) (table4 : Y3) (t11 : Int) (t12 : Int) : zz38_R3 N (m + 1) (zz38_E3 kX kO) o1 table4 t11 t12 = zz38_b3 (zz38_R7 N N (zz38_K7 N m kX kO)) (zz38_X3 kX) o1 table4 t11 t12 := by kernel_rfl
theorem zz38_iter3 (N : Nat) (kX : St → Option ((Y3 × (Bool × Unit)) × Unit)) (kO : Nat → St → Option ((Y3 × (Bool × Unit)) × Unit)) : ∀ (n : Nat) (o1 : Y5) (table4 : Y3) (t11 : Int) (t12 : Int), zz38_R3 N n (zz38_E3 kX kO) o1 table4 t11 t12 = zz38_l3 N (zz38_X3 kX) n o1 table4 t11 t12
  | 0, _, _, _, _ => rfl
  | m + 1, o1, table4, t11, t12 => by
    have hrec : zz38_R3 N m (zz38_E3 kX kO) = (zz38_l3 N (zz38_X3 kX) m) := (funext fun o1 => (funext fun table4 => (funext fun t11 => (funext fun t12 => zz38_iter3 N kX kO m o1 table4 t11 t12))))
    refine (zz38_step3 N m kX kO o1 table4 t11 t12).trans ?_
    rw [(funext fun o1 => (funext fun table4 => (funext fun x5 => (funext fun row6 => (funext fun t11 => (funext fun t12 => (funext fun t17 => (funext fun t18 => zz38_in7 N m kX kO (zz38_l3 N (zz38_X3 kX) m) hrec o1 table4 x5 row6 t11 t12 t17 t18))))))))]
    rfl
noncomputable abbrev zz38_K3 (N : Nat) : Ex → St → Option ((Y3 × (Bool × Unit)) × Unit) := (blockK 0 (seqK ((A_zz38).shape 33) (run (A_zz38) N (codeAt Try.f65 [1, 1, 1])) zz38_z))
noncomputable abbrev zz38_k3 (N : Nat) : St → Option ((Y3 × (Bool × Unit)) × Unit) := fun st' => run (A_zz38) N (codeAt Try.f65 [1, 1, 1]) st' zz38_z
theorem zz38_after3 (N : Nat) (table4 : Y3) : zz38_X3 (zz38_k3 N) table4 = zz38_a3 table4 := by kernel_rfl
theorem zz38_in3 (N : Nat) (o1 : Y5) (table4 : Y3) (t11 : Int) (t12 : Int) : zz38_R3 N N (zz38_K3 N) o1 table4 t11 t12 = zz38_F3 N o1 table4 t11 t12 :=
  have h : zz38_X3 (zz38_k3 N) = (zz38_a3) := (funext fun table4 => zz38_after3 N table4)
  ((iter_ex (fun st => by kernel_rfl) (fun st => by kernel_rfl)).trans (zz38_iter3 N (zz38_k3 N) (fun j st => (zz38_K3 N) (.exit j) st) N o1 table4 t11 t12)).trans (congrArg (fun k => zz38_l3 N k N o1 table4 t11 t12) h)
theorem run0_zz38 (N : Nat) (x : (S_zz38).a.den) : runF (A_zz38) N Try.f65 S_zz38 x = (zz38_s (zz38_R3 N N (zz38_K3 N)) x.1) := by kernel_rfl
theorem run_zz38 (N : Nat) (x : (S_zz38).a.den) : runF (A_zz38) N Try.f65 S_zz38 x = zz38 N x.1 := by
  refine (run0_zz38 N x).trans ?_
  rw [(funext fun o1 => (funext fun table4 => (funext fun t11 => (funext fun t12 => zz38_in3 N o1 table4 t11 t12))))]
  rfl
theorem fn_zz38 : FnOk Try.prog 65 := ⟨_, Try.func65, by kernel_rfl, by kernel_rfl⟩
theorem good_zz38 : Gx.Good Try.prog 65 S_zz38 := good_of_run Try.func65 (of_decide_eq_true (by kernel_rfl)) fun x r h => ⟨A_zz38, big, mkCfg_ok tabOk, mkCfg_sigs (show SigsOk Try.prog [(68, S_zz37), (95, S_zz35)] from ⟨⟨fn_zz37, good_zz37⟩, ⟨fn_zz35, good_zz35⟩, trivial⟩), (run_zz38 big x).trans h⟩

/-! zz39 -/
def zz39_b6 (rec : Y5 → Y5 → Int → Int → Int → Int → Int → Option (Y5 × Unit)) (k : Y5 → Y5 → Int → Int → Option (Y5 × Unit)) (o0 : Y5) (d3 : Y5) (x4 : Int) (t10 : Int) (t11 : Int) (t15 : Int) (t16 : Int) : Option (Y5 × Unit) :=
  cond (decide (t16 < t15))
  ((atI d3 x4).bind fun _ =>
  (d3[x4.toNat]?).bind fun xq2 =>
  (atI o0 t16).bind fun xq3 =>
  (atI xq3 x4).bind fun xq4 =>
  (d3[x4.toNat]?).bind fun xq5 =>
  (atI xq5 t16).bind fun _ =>
  (d3[x4.toNat]?).bind fun xq6 =>
  (xq6[t16.toNat]?).bind fun xq7 =>
  rec o0 (d3.set x4.toNat (xq6.set t16.toNat xq4)) x4 t10 t11 t15 (IntKind.i64.wrap (t16 + (1 : Int))))
  (k o0 d3 t10 t11)
def zz39_a6 (rec : Y5 → Y5 → Int → Int → Option (Y5 × Unit)) (o0 : Y5) (d3 : Y5) (t10 : Int) (t11 : Int) : Option (Y5 × Unit) :=
  rec o0 d3 t10 (IntKind.i64.wrap (t11 + (1 : Int)))
def zz39_b3 (L6 : Y5 → Y5 → Int → Int → Int → Int → Int → Option (Y5 × Unit)) (k : Y5 → Option (Y5 × Unit)) (o0 : Y5) (d3 : Y5) (t10 : Int) (t11 : Int) : Option (Y5 × Unit) :=
  cond (decide (t11 < t10))
  (L6 o0 d3 t11 t10 t11 (o0.length : Int) (0 : Int))
  (k d3)
def zz39_a3 (d3 : Y5) : Option (Y5 × Unit) :=
  some (d3, (()))
def zz39_s (L3 : Y5 → Y5 → Int → Int → Option (Y5 × Unit)) (o_0 : Y5) : Option (Y5 × Unit) :=
  (zz30 big (o_0.length : Int)).bind fun rq1 =>
  L3 o_0 rq1.1 (o_0.length : Int) (0 : Int)
def zz39_l6 (N : Nat) (k : Y5 → Y5 → Int → Int → Option (Y5 × Unit)) : Nat → Y5 → Y5 → Int → Int → Int → Int → Int → Option (Y5 × Unit)
  | 0, _, _, _, _, _, _, _ => none
  | m + 1, o0, d3, x4, t10, t11, t15, t16 => zz39_b6 (zz39_l6 N k m) k o0 d3 x4 t10 t11 t15 t16
def zz39_F6 (N : Nat) (rec : Y5 → Y5 → Int → Int → Option (Y5 × Unit)) (k : Y5 → Option (Y5 × Unit)) (o0 : Y5) (d3 : Y5) (x4 : Int) (t10 : Int) (t11 : Int) (t15 : Int) (t16 : Int) : Option (Y5 × Unit) := zz39_l6 N (zz39_a6 rec) N o0 d3 x4 t10 t11 t15 t16
def zz39_l3 (N : Nat) (k : Y5 → Option (Y5 × Unit)) : Nat → Y5 → Y5 → Int → Int → Option (Y5 × Unit)
  | 0, _, _, _, _ => none
  | m + 1, o0, d3, t10, t11 => zz39_b3 (zz39_F6 N (zz39_l3 N k m) k) k o0 d3 t10 t11
def zz39_F3 (N : Nat) (o0 : Y5) (d3 : Y5) (t10 : Int) (t11 : Int) : Option (Y5 × Unit) := zz39_l3 N (zz39_a3) N o0 d3 t10 t11
def zz39 (N : Nat) (o_0 : Y5) : Option (Y5 × Unit) := zz39_s (zz39_F3 N) o_0
def S_zz39 : Sig := { a := (.pair (.sl (.sl .bool)) .unit), md := [0], mf := [], m := .unit, r := (.sl (.sl .bool)), rf := (.o (.o .i)), f := fun x => zz39 big x.1 }
def A_zz39 : Cfg := mkCfg tab [(92, S_zz30)] [(6, [.as (.sl (.sl .bool)) .i, .drop, .drop, .as (.sl (.sl .bool)) (.o (.o .i)), .drop, .drop, .drop, .drop, .drop, .drop, .as I .i, .as I .i]), (12, [.as (.sl (.sl .bool)) .i, .drop, .drop, .as (.sl (.sl .bool)) (.o (.o .i)), .as I .i, .drop, .drop, .drop, .drop, .drop, .as I .i, .as I .i, .drop, .drop, .drop, .as I .i, .as I .i]), (23, [.drop, .drop, .drop, .as (.sl (.sl .bool)) (.o (.o .i))]), (21, [.as (.sl (.sl .bool)) .i, .drop, .drop, .as (.sl (.sl .bool)) (.o (.o .i)), .drop, .drop, .drop, .drop, .drop, .drop, .as I .i, .as I .i])]
noncomputable def zz39_R3 (N n : Nat) (K : Ex → St → Option (Y5 × Unit)) (o0 : Y5) (d3 : Y5) (t10 : Int) (t11 : Int) : Option (Y5 × Unit) := iter ((A_zz39).shape 6) (run (A_zz39) N (codeAt Try.f66 [1, 1, 0, 1, 0, 0])) n ([.val (.sl (.sl .bool)) .i o0, .u, .u, .val (.sl (.sl .bool)) (.o (.o .i)) d3, .u, .u, .u, .u, .u, .u, .val I .i t10, .val I .i t11] ++ List.replicate 23 .u) K
noncomputable def zz39_R6 (N n : Nat) (K : Ex → St → Option (Y5 × Unit)) (o0 : Y5) (d3 : Y5) (x4 : Int) (t10 : Int) (t11 : Int) (t15 : Int) (t16 : Int) : Option (Y5 × Unit) := iter ((A_zz39).shape 12) (run (A_zz39) N (codeAt Try.f66 [1, 1, 0, 1, 0, 0, 1, 1, 0, 0, 1, 1, 0, 0])) n ([.val (.sl (.sl .bool)) .i o0, .u, .u, .val (.sl (.sl .bool)) (.o (.o .i)) d3, .val I .i x4, .u, .u, .u, .u, .u, .val I .i t10, .val I .i t11, .u, .u, .u, .val I .i t15, .val I .i t16] ++ List.replicate 18 .u) K
noncomputable abbrev zz39_z : Ex → St → Option (Y5 × Unit) := finish (A_zz39) S_zz39 Try.f66.results.toList
noncomputable abbrev zz39_X3 (kX : St → Option (Y5 × Unit)) : Y5 → Option (Y5 × Unit) := fun (d3 : Y5) => kX ([.u, .u, .u, .val (.sl (.sl .bool)) (.o (.o .i)) d3] ++ List.replicate 31 .u)
noncomputable abbrev zz39_E3 (kX : St → Option (Y5 × Unit)) (kO : Nat → St → Option (Y5 × Unit)) : Ex → St → Option (Y5 × Unit) := exK zz39_z 0 ((A_zz39).shape 23) kX kO
noncomputable abbrev zz39_X6 (kX : St → Option (Y5 × Unit)) : Y5 → Y5 → Int → Int → Option (Y5 × Unit) := fun (o0 : Y5) (d3 : Y5) (t10 : Int) (t11 : Int) => kX ([.val (.sl (.sl .bool)) .i o0, .u, .u, .val (.sl (.sl .bool)) (.o (.o .i)) d3, .u, .u, .u, .u, .u, .u, .val I .i t10, .val I .i t11] ++ List.replicate 23 .u)
noncomputable abbrev zz39_E6 (kX : St → Option (Y5 × Unit)) (kO : Nat → St → Option (Y5 × Unit)) : Ex → St → Option (Y5 × Unit) := exK zz39_z 2 ((A_zz39).shape 21) kX kO
theorem zz39_step6 (N : Nat) (m : Nat) (kX : St → Option (Y5 × Unit)) (kO : Nat → St → Option (Y5 × Unit)) (o0 : Y5) (d3 : Y5) (x4 : Int) (t10 : Int) (t11 : Int) (t15 : Int) (t16 : Int) : zz39_R6 N (m + 1) (zz39_E6 kX kO) o0 d3 x4 t10 t11 t15 t16 = zz39_b6 (zz39_R6 N m (zz39_E6 kX kO)) (zz39_X6 kX) o0 d3 x4 t10 t11 t15 t16 := by kernel_rfl
theorem zz39_iter6 (N : Nat) (kX : St → Option (Y5 × Unit)) (kO : Nat → St → Option (Y5 × Unit)) : ∀ (n : Nat) (o0 : Y5) (d3 : Y5) (x4 : Int) (t10 : Int) (t11 : Int) (t15 : Int) (t16 : Int), zz39_R6 N n (zz39_E6 kX kO) o0 d3 x4 t10 t11 t15 t16 = zz39_l6 N (zz39_X6 kX) n o0 d3 x4 t10 t11 t15 t16
  | 0, _, _, _, _, _, _, _ => rfl
  | m + 1, o0, d3, x4, t10, t11, t15, t16 => by
    have hrec : zz39_R6 N m (zz39_E6 kX kO) = (zz39_l6 N (zz39_X6 kX) m) := (funext fun o0 => (funext fun d3 => (funext fun x4 => (funext fun t10 => (funext fun t11 => (funext fun t15 => (funext fun t16 => zz39_iter6 N kX kO m o0 d3 x4 t10 t11 t15 t16)))))))
    refine (zz39_step6 N m kX kO o0 d3 x4 t10 t11 t15 t16).trans ?_
    rw [hrec]
    rfl
noncomputable abbrev zz39_K6 (N : Nat) (m : Nat) (kX : St → Option (Y5 × Unit)) (kO : Nat → St → Option (Y5 × Unit)) : Ex → St → Option (Y5 × Unit) := (blockK 2 (blockK 1 (seqK ((A_zz39).shape 21) (run (A_zz39) N (codeAt Try.f66 [1, 1, 0, 1, 0, 0, 1, 1, 1])) (iterK ((A_zz39).shape 6) (run (A_zz39) N (codeAt Try.f66 [1, 1, 0, 1, 0, 0])) m (zz39_E3 kX kO)))))
noncomputable abbrev zz39_k6 (N : Nat) (m : Nat) (kX : St → Option (Y5 × Unit)) (kO : Nat → St → Option (Y5 × Unit)) : St → Option (Y5 × Unit) := fun st' => run (A_zz39) N (codeAt Try.f66 [1, 1, 0, 1, 0, 0, 1, 1, 1]) st' (iterK ((A_zz39).shape 6) (run (A_zz39) N (codeAt Try.f66 [1, 1, 0, 1, 0, 0])) m (zz39_E3 kX kO))
theorem zz39_after6 (N : Nat) (m : Nat) (kX : St → Option (Y5 × Unit)) (kO : Nat → St → Option (Y5 × Unit)) (o0 : Y5) (d3 : Y5) (t10 : Int) (t11 : Int) : zz39_X6 (zz39_k6 N m kX kO) o0 d3 t10 t11 = zz39_a6 (zz39_R3 N m (zz39_E3 kX kO)) o0 d3 t10 t11 := by kernel_rfl
theorem zz39_in6 (N : Nat) (m : Nat) (kX : St → Option (Y5 × Unit)) (kO : Nat → St → Option (Y5 × Unit)) (recF : Y5 → Y5 → Int → Int → Option (Y5 × Unit)) (hrec : zz39_R3 N m (zz39_E3 kX kO) = recF) (o0 : Y5) (d3 : Y5) (x4 : Int) (t10 : Int) (t11 : Int) (t15 : Int) (t16 : Int) : zz39_R6 N N (zz39_K6 N m kX kO) o0 d3 x4 t10 t11 t15 t16 = zz39_F6 N recF (zz39_X3 kX) o0 d3 x4 t10 t11 t15 t16 :=
  have h : zz39_X6 (zz39_k6 N m kX kO) = (zz39_a6 recF) := (funext fun o0 => (funext fun d3 => (funext fun t10 => (funext fun t11 => (zz39_after6 N m kX kO o0 d3 t10 t11).trans (by rw [hrec])))))
  ((iter_ex (fun st => by kernel_rfl) (fun st => by kernel_rfl)).trans (zz39_iter6 N (zz39_k6 N m kX kO) (fun j st => (zz39_K6 N m kX kO) (.exit j) st) N o0 d3 x4 t10 t11 t15 t16)).trans (congrArg (fun k => zz39_l6 N k N o0 d3 x4 t10 t11 t15 t16) h)
theorem zz39_step3 (N : Nat) (m : Nat) (kX : St → Option (Y5 × Unit)) (kO : Nat → St → Option (Y5 × Unit)) (o0 : Y5) (d3 : Y5) (t10 : Int) (t11 : Int) : zz39_R3 N (m + 1) (zz39_E3 kX kO) o0 d3 t10 t11 = zz39_b3 (zz39_R6 N N (zz39_K6 N m kX kO)) (zz39_X3 kX) o0 d3 t10 t11 := by kernel_rfl
theorem zz39_iter3 (N : Nat) (kX : St → Option (Y5 × Unit)) (kO : Nat → St → Option (Y5 × Unit)) : ∀ (n : Nat) (o0 : Y5) (d3 : Y5) (t10 : Int) (t11 : Int), zz39_R3 N n (zz39_E3 kX kO) o0 d3 t10 t11 = zz39_l3 N (zz39_X3 kX) n o0 d3 t10 t11
  | 0, _, _, _, _ => rfl
  | m + 1, o0, d3, t10, t11 => by
    have hrec : zz39_R3 N m (zz39_E3 kX kO) = (zz39_l3 N (zz39_X3 kX) m) := (funext fun o0 => (funext fun d3 => (funext fun t10 => (funext fun t11 => zz39_iter3 N kX kO m o0 d3 t10 t11))))
    refine (zz39_step3 N m kX kO o0 d3 t10 t11).trans ?_
    rw [(funext fun o0 => (funext fun d3 => (funext fun x4 => (funext fun t10 => (funext fun t11 => (funext fun t15 => (funext fun t16 => zz39_in6 N m kX kO (zz39_l3 N (zz39_X3 kX) m) hrec o0 d3 x4 t10 t11 t15 t16)))))))]
    rfl
noncomputable abbrev zz39_K3 (N : Nat) : Ex → St → Option (Y5 × Unit) := (blockK 0 (seqK ((A_zz39).shape 23) (run (A_zz39) N (codeAt Try.f66 [1, 1, 1])) zz39_z))
noncomputable abbrev zz39_k3 (N : Nat) : St → Option (Y5 × Unit) := fun st' => run (A_zz39) N (codeAt Try.f66 [1, 1, 1]) st' zz39_z
theorem zz39_after3 (N : Nat) (d3 : Y5) : zz39_X3 (zz39_k3 N) d3 = zz39_a3 d3 := by kernel_rfl
theorem zz39_in3 (N : Nat) (o0 : Y5) (d3 : Y5) (t10 : Int) (t11 : Int) : zz39_R3 N N (zz39_K3 N) o0 d3 t10 t11 = zz39_F3 N o0 d3 t10 t11 :=
  have h : zz39_X3 (zz39_k3 N) = (zz39_a3) := (funext fun d3 => zz39_after3 N d3)
  ((iter_ex (fun st => by kernel_rfl) (fun st => by kernel_rfl)).trans (zz39_iter3 N (zz39_k3 N) (fun j st => (zz39_K3 N) (.exit j) st) N o0 d3 t10 t11)).trans (congrArg (fun k => zz39_l3 N k N o0 d3 t10 t11) h)
theorem run0_zz39 (N : Nat) (x : (S_zz39).a.den) : runF (A_zz39) N Try.f66 S_zz39 x = (zz39_s (zz39_R3 N N (zz39_K3 N)) x.1) := by kernel_rfl
theorem run_zz39 (N : Nat) (x : (S_zz39).a.den) : runF (A_zz39) N Try.f66 S_zz39 x = zz39 N x.1 := by
  refine (run0_zz39 N x).trans ?_
  rw [(funext fun o0 => (funext fun d3 => (funext fun t10 => (funext fun t11 => zz39_in3 N o0 d3 t10 t11))))]
  rfl
theorem fn_zz39 : FnOk Try.prog 66 := ⟨_, Try.func66, by kernel_rfl, by kernel_rfl⟩
theorem good_zz39 : Gx.Good Try.prog 66 S_zz39 := good_of_run Try.func66 (of_decide_eq_true (by kernel_rfl)) fun x r h => ⟨A_zz39, big, mkCfg_ok tabOk, mkCfg_sigs (show SigsOk Try.prog [(92, S_zz30)] from ⟨⟨fn_zz30, good_zz30⟩, trivial⟩), (run_zz39 big x).trans h⟩

/-! zz40 -/
def zz40_s (p_0 : Y2) : Option ((Y1 × (Bool × Unit)) × Unit) :=
  (zz34 big p_0).bind fun rq1 =>
  cond (!((((), rq1.1.2).2).1))
  (some ((none, false, ()), (())))
  (cond (decide ((rq1.1.1.length : Int) = (0 : Int)))
  (some ((none, false, ()), (())))
  ((zz38 big rq1.1.1).bind fun rq2 =>
  (zz39 big rq1.1.1).bind fun rq3 =>
  (zz38 big rq3.1).bind fun rq4 =>
  cond ((((), rq2.1.2).2).1)
  (some ((some (rq1.1.1, (rq2.1.1, (rq4.1.1, ()))), (((), rq4.1.2).2).1, ()), (())))
  (some ((some (rq1.1.1, (rq2.1.1, (rq4.1.1, ()))), false, ()), (())))))
def zz40 (p_0 : Y2) : Option ((Y1 × (Bool × Unit)) × Unit) := zz40_s p_0
def S_zz40 : Sig := { a := (.pair (.pair (.sl (.sl I)) .unit) .unit), md := [0], mf := [], m := .unit, r := (.tup (.pair (.opt (.pair (.sl (.sl .bool)) (.pair (.sl (.sl I)) (.pair (.sl (.sl I)) .unit)))) (.pair .bool .unit))), rf := .i, f := fun x => zz40 x.1 }
def A_zz40 : Cfg := mkCfg tab [(64, S_zz34), (65, S_zz38), (66, S_zz39)] []
theorem run_zz40 (N : Nat) (x : (S_zz40).a.den) : runF (A_zz40) N Try.f28 S_zz40 x = zz40 x.1 := by kernel_rfl
theorem fn_zz40 : FnOk Try.prog 28 := ⟨_, Try.func28, by kernel_rfl, by kernel_rfl⟩
theorem good_zz40 : Gx.Good Try.prog 28 S_zz40 := good_of_run Try.func28 (of_decide_eq_true (by kernel_rfl)) fun x r h => ⟨A_zz40, big, mkCfg_ok tabOk, mkCfg_sigs (show SigsOk Try.prog [(64, S_zz34), (65, S_zz38), (66, S_zz39)] from ⟨⟨fn_zz34, good_zz34⟩, ⟨fn_zz38, good_zz38⟩, ⟨fn_zz39, good_zz39⟩, trivial⟩), (run_zz40 big x).trans h⟩

/-! zz41 -/
def zz41_b8 (rec : Y1 → Int → Int → Int → Int → Int → Int → Int → Int → Option ((Option Y4) × Unit)) (k : Y1 → Int → Int → Int → Int → Int → Option ((Option Y4) × Unit)) (l0 : Y1) (x3 : Int) (y4 : Int) (t10 : Int) (t11 : Int) (t18 : Int) (t19 : Int) (t26 : Int) (t27 : Int) : Option ((Option Y4) × Unit) :=
  cond (decide (t27 < t26))
  ((l0).bind fun xq4 =>
  (atI xq4.2.1 x3).bind fun xq5 =>
  (l0).bind fun xq6 =>
  (atI xq6.2.2.1 y4).bind fun xq7 =>
  (atI xq7 t27).bind fun xq8 =>
  (atI xq5 xq8).bind fun xq9 =>
  (l0).bind fun xq10 =>
  (l0).bind fun xq11 =>
  (atI xq11.2.1 x3).bind fun xq12 =>
  (atI xq12 y4).bind fun xq13 =>
  (atI xq10.2.2.1 xq13).bind fun xq14 =>
  (l0).bind fun xq15 =>
  (atI xq15.2.1 x3).bind fun xq16 =>
  (atI xq16 t27).bind fun xq17 =>
  (atI xq14 xq17).bind fun xq18 =>
  cond (decide (xq9 ≠ xq18))
  (some ((some [x3, y4, t27]), (())))
  (rec l0 x3 y4 t10 t11 t18 t19 t26 (IntKind.i64.wrap (t27 + (1 : Int)))))
  (k l0 x3 t10 t11 t18 t19)
def zz41_a8 (rec : Y1 → Int → Int → Int → Int → Int → Option ((Option Y4) × Unit)) (l0 : Y1) (x3 : Int) (t10 : Int) (t11 : Int) (t18 : Int) (t19 : Int) : Option ((Option Y4) × Unit) :=
  rec l0 x3 t10 t11 t18 (IntKind.i64.wrap (t19 + (1 : Int)))
def zz41_b5 (L8 : Y1 → Int → Int → Int → Int → Int → Int → Int → Int → Option ((Option Y4) × Unit)) (k : Y1 → Int → Int → Option ((Option Y4) × Unit)) (l0 : Y1) (x3 : Int) (t10 : Int) (t11 : Int) (t18 : Int) (t19 : Int) : Option ((Option Y4) × Unit) :=
  cond (decide (t19 < t18))
  ((l0).bind fun xq3 =>
  L8 l0 x3 t19 t10 t11 t18 t19 (xq3.1.length : Int) (0 : Int))
  (k l0 t10 t11)
def zz41_a5 (rec : Y1 → Int → Int → Option ((Option Y4) × Unit)) (l0 : Y1) (t10 : Int) (t11 : Int) : Option ((Option Y4) × Unit) :=
  rec l0 t10 (IntKind.i64.wrap (t11 + (1 : Int)))
def zz41_b2 (L5 : Y1 → Int → Int → Int → Int → Int → Option ((Option Y4) × Unit)) (k : Option ((Option Y4) × Unit)) (l0 : Y1) (t10 : Int) (t11 : Int) : Option ((Option Y4) × Unit) :=
  cond (decide (t11 < t10))
  ((l0).bind fun xq2 =>
  L5 l0 t11 t10 t11 (xq2.1.length : Int) (0 : Int))
  (k)
def zz41_a2 : Option ((Option Y4) × Unit) :=
  some (none, (()))
def zz41_s (L2 : Y1 → Int → Int → Option ((Option Y4) × Unit)) (l_0 : Y1) : Option ((Option Y4) × Unit) :=
  (l_0).bind fun xq1 =>
  L2 l_0 (xq1.1.length : Int) (0 : Int)
def zz41_l8 (N : Nat) (k : Y1 → Int → Int → Int → Int → Int → Option ((Option Y4) × Unit)) : Nat → Y1 → Int → Int → Int → Int → Int → Int → Int → Int → Option ((Option Y4) × Unit)
  | 0, _, _, _, _, _, _, _, _, _ => none
  | m + 1, l0, x3, y4, t10, t11, t18, t19, t26, t27 => zz41_b8 (zz41_l8 N k m) k l0 x3 y4 t10 t11 t18 t19 t26 t27
def zz41_F8 (N : Nat) (rec : Y1 → Int → Int → Int → Int → Int → Option ((Option Y4) × Unit)) (k : Y1 → Int → Int → Option ((Option Y4) × Unit)) (l0 : Y1) (x3 : Int) (y4 : Int) (t10 : Int) (t11 : Int) (t18 : Int) (t19 : Int) (t26 : Int) (t27 : Int) : Option ((Option Y4) × Unit) := zz41_l8 N (zz41_a8 rec) N l0 x3 y4 t10 t11 t18 t19 t26 t27
def zz41_l5 (N : Nat) (k : Y1 → Int → Int → Option ((Option Y4) × Unit)) : Nat → Y1 → Int → Int → Int → Int → Int → Option ((Option Y4) × Unit)
  | 0, _, _, _, _, _, _ => none
  | m + 1, l0, x3, t10, t11, t18, t19 => zz41_b5 (zz41_F8 N (zz41_l5 N k m) k) k l0 x3 t10 t11 t18 t19
def zz41_F5 (N : Nat) (rec : Y1 → Int → Int → Option ((Option Y4) × Unit)) (k : Option ((Option Y4) × Unit)) (l0 : Y1) (x3 : Int) (t10 : Int) (t11 : Int) (t18 : Int) (t19 : Int) : Option ((Option Y4) × Unit) := zz41_l5 N (zz41_a5 rec) N l0 x3 t10 t11 t18 t19
def zz41_l2 (N : Nat) (k : Option ((Option Y4) × Unit)) : Nat → Y1 → Int → Int → Option ((Option Y4) × Unit)
  | 0, _, _, _ => none
  | m + 1, l0, t10, t11 => zz41_b2 (zz41_F5 N (zz41_l2 N k m) k) k l0 t10 t11
def zz41_F2 (N : Nat) (l0 : Y1) (t10 : Int) (t11 : Int) : Option ((Option Y4) × Unit) := zz41_l2 N (zz41_a2) N l0 t10 t11
def zz41 (N : Nat) (l_0 : Y1) : Option ((Option Y4) × Unit) := zz41_s (zz41_F2 N) l_0
def S_zz41 : Sig := { a := (.pair (.opt (.pair (.sl (.sl .bool)) (.pair (.sl (.sl I)) (.pair (.sl (.sl I)) .unit)))) .unit), md := [0], mf := [], m := .unit, r := (.ns I), rf := .i, f := fun x => zz41 big x.1 }
def A_zz41 : Cfg := mkCfg tab [] [(4, [.as (.opt (.pair (.sl (.sl .bool)) (.pair (.sl (.sl I)) (.pair (.sl (.sl I)) .unit)))) .i, .drop, .drop, .drop, .drop, .drop, .drop, .drop, .drop, .drop, .as I .i, .as I .i]), (10, [.as (.opt (.pair (.sl (.sl .bool)) (.pair (.sl (.sl I)) (.pair (.sl (.sl I)) .unit)))) .i, .drop, .drop, .as I .i, .drop, .drop, .drop, .drop, .drop, .drop, .as I .i, .as I .i, .drop, .drop, .drop, .drop, .drop, .drop, .as I .i, .as I .i]), (31, []), (16, [.as (.opt (.pair (.sl (.sl .bool)) (.pair (.sl (.sl I)) (.pair (.sl (.sl I)) .unit)))) .i, .drop, .drop, .as I .i, .as I .i, .drop, .drop, .drop, .drop, .drop, .as I .i, .as I .i, .drop, .drop, .drop, .drop, .drop, .drop, .as I .i, .as I .i, .drop, .drop, .drop, .drop, .drop, .drop, .as I .i, .as I .i]), (29, [.as (.opt (.pair (.sl (.sl .bool)) (.pair (.sl (.sl I)) (.pair (.sl (.sl I)) .unit)))) .i, .drop, .drop, .drop, .drop, .drop, .drop, .drop, .drop, .drop, .as I .i, .as I .i]), (27, [.as (.opt (.pair (.sl (.sl .bool)) (.pair (.sl (.sl I)) (.pair (.sl (.sl I)) .unit)))) .i, .drop, .drop, .as I .i, .drop, .drop, .drop, .drop, .drop, .drop, .as I .i, .as I .i, .drop, .drop, .drop, .drop, .drop, .drop, .as I .i, .as I .i])]
noncomputable def zz41_R2 (N n : Nat) (K : Ex → St → Option ((Option Y4) × Unit)) (l0 : Y1) (t10 : Int) (t11 : Int) : Option ((Option Y4) × Unit) := iter ((A_zz41).shape 4) (run (A_zz41) N (codeAt Try.f104 [1, 0, 1, 0, 0])) n ([.val (.opt (.pair (.sl (.sl .bool)) (.pair (.sl (.sl I)) (.pair (.sl (.sl I)) .unit)))) .i l0, .u, .u, .u, .u, .u, .u, .u, .u, .u, .val I .i t10, .val I .i t11] ++ List.replicate 73 .u) K
noncomputable def zz41_R5 (N n : Nat) (K : Ex → St → Option ((Option Y4) × Unit)) (l0 : Y1) (x3 : Int) (t10 : Int) (t11 : Int) (t18 : Int) (t19 : Int) : Option ((Option Y4) × Unit) := iter ((A_zz41).shape 10) (run (A_zz41) N (codeAt Try.f104 [1, 0, 1, 0, 0, 1, 1, 0, 0, 1, 1, 0, 0])) n ([.val (.opt (.pair (.sl (.sl .bool)) (.pair (.sl (.sl I)) (.pair (.sl (.sl I)) .unit)))) .i l0, .u, .u, .val I .i x3, .u, .u, .u, .u, .u, .u, .val I .i t10, .val I .i t11, .u, .u, .u, .u, .u, .u, .val I .i t18, .val I .i t19] ++ List.replicate 65 .u) K
noncomputable def zz41_R8 (N n : Nat) (K : Ex → St → Option ((Option Y4) × Unit)) (l0 : Y1) (x3 : Int) (y4 : Int) (t10 : Int) (t11 : Int) (t18 : Int) (t19 : Int) (t26 : Int) (t27 : Int) : Option ((Option Y4) × Unit) := iter ((A_zz41).shape 16) (run (A_zz41) N (codeAt Try.f104 [1, 0, 1, 0, 0, 1, 1, 0, 0, 1, 1, 0, 0, 1, 1, 0, 0, 1, 1, 0, 0])) n ([.val (.opt (.pair (.sl (.sl .bool)) (.pair (.sl (.sl I)) (.pair (.sl (.sl I)) .unit)))) .i l0, .u, .u, .val I .i x3, .val I .i y4, .u, .u, .u, .u, .u, .val I .i t10, .val I .i t11, .u, .u, .u, .u, .u, .u, .val I .i t18, .val I .i t19, .u, .u, .u, .u, .u, .u, .val I .i t26, .val I .i t27] ++ List.replicate 57 .u) K
noncomputable abbrev zz41_z : Ex → St → Option ((Option Y4) × Unit) := finish (A_zz41) S_zz41 Try.f104.results.toList
noncomputable abbrev zz41_X2 (kX : St → Option ((Option Y4) × Unit)) : Option ((Option Y4) × Unit) := kX ([] ++ List.replicate 85 .u)
noncomputable abbrev zz41_E2 (kX : St → Option ((Option Y4) × Unit)) (kO : Nat → St → Option ((Option Y4) × Unit)) : Ex → St → Option ((Option Y4) × Unit) := exK zz41_z 0 ((A_zz41).shape 31) kX kO
noncomputable abbrev zz41_X5 (kX : St → Option ((Option Y4) × Unit)) : Y1 → Int → Int → Option ((Option Y4) × Unit) := fun (l0 : Y1) (t10 : Int) (t11 : Int) => kX ([.val (.opt (.pair (.sl (.sl .bool)) (.pair (.sl (.sl I)) (.pair (.sl (.sl I)) .unit)))) .i l0, .u, .u, .u, .u, .u, .u, .u, .u, .u, .val I .i t10, .val I .i t11] ++ List.replicate 73 .u)
noncomputable abbrev zz41_E5 (kX : St → Option ((Option Y4) × Unit)) (kO : Nat → St → Option ((Option Y4) × Unit)) : Ex → St → Option ((Option Y4) × Unit) := exK zz41_z 2 ((A_zz41).shape 29) kX kO
noncomputable abbrev zz41_X8 (kX : St → Option ((Option Y4) × Unit)) : Y1 → Int → Int → Int → Int → Int → Option ((Option Y4) × Unit) := fun (l0 : Y1) (x3 : Int) (t10 : Int) (t11 : Int) (t18 : Int) (t19 : Int) => kX ([.val (.opt (.pair (.sl (.sl .bool)) (.pair (.sl (.sl I)) (.pair (.sl (.sl I)) .unit)))) .i l0, .u, .u, .val I .i x3, .u, .u, .u, .u, .u, .u, .val I .i t10, .val I .i t11, .u, .u, .u, .u, .u, .u, .val I .i t18, .val I .i t19] ++ List.replicate 65 .u)
noncomputable abbrev zz41_E8 (kX : St → Option ((Option Y4) × Unit)) (kO : Nat → St → Option ((Option Y4) × Unit)) : Ex → St → Option ((Option Y4) × Unit) := exK zz41_z 4 ((A_zz41).shape 27) kX kO
theorem zz41_step8 (N : Nat) (m : Nat) (kX : St → Option ((Option Y4) × Unit)) (kO : Nat → St → Option ((Option Y4) × Unit)) (l0 : Y1) (x3 : Int) (y4 : Int) (t10 : Int) (t11 : Int) (t18 : Int) (t19 : Int) (t26 : Int) (t27 : Int) : zz41_R8 N (m + 1) (zz41_E8 kX kO) l0 x3 y4 t10 t11 t18 t19 t26 t27 = zz41_b8 (zz41_R8 N m (zz41_E8 kX kO)) (zz41_X8 kX) l0 x3 y4 t10 t11 t18 t19 t26 t27 := by kernel_rfl
theorem zz41_iter8 (N : Nat) (kX : St → Option ((Option Y4) × Unit)) (kO : Nat → St → Option ((Option Y4) × Unit)) : ∀ (n : Nat) (l0 : Y1) (x3 : Int) (y4 : Int) (t10 : Int) (t11 : Int) (t18 : Int) (t19 : Int) (t26 : Int) (t27 : Int), zz41_R8 N n (zz41_E8 kX kO) l0 x3 y4 t10 t11 t18 t19 t26 t27 = zz41_l8 N (zz41_X8 kX) n l0 x3 y4 t10 t11 t18 t19 t26 t27
  | 0, _, _, _, _, _, _, _, _, _ => rfl
  | m + 1, l0, x3, y4, t10, t11, t18, t19, t26, t27 => by
    have hrec : zz41_R8 N m (zz41_E8 kX kO) = (zz41_l8 N (zz41_X8 kX) m) := (funext fun l0 => (funext fun x3 => (funext fun y4 => (funext fun t10 => (funext fun t11 => (funext fun t18 => (funext fun t19 => (funext fun t26 => (funext fun t27 => zz41_iter8 N kX kO m l0 x3 y4 t10 t11 t18 t19 t26 t27)))))))))
    refine (zz41_step8 N m kX kO l0 x3 y4 t10 t11 t18 t19 t26 t27).trans ?_
    rw [hrec]
    rfl
noncomputable abbrev zz41_K8 (N : Nat) (m : Nat) (kX : St → Option ((Option Y4) × Unit)) (kO : Nat → St → Option ((Option Y4) × Unit)) : Ex → St → Option ((Option Y4) × Unit) := (blockK 4 (blockK 3 (seqK ((A_zz41).shape 27) (run (A_zz41) N (codeAt Try.f104 [1, 0, 1, 0, 0, 1, 1, 0, 0, 1, 1, 0, 0, 1, 1, 1])) (iterK ((A_zz41).shape 10) (run (A_zz41) N (codeAt Try.f104 [1, 0, 1, 0, 0, 1, 1, 0, 0, 1, 1, 0, 0])) m (zz41_E5 kX kO)))))
noncomputable abbrev zz41_k8 (N : Nat) (m : Nat) (kX : St → Option ((Option Y4) × Unit)) (kO : Nat → St → Option ((Option Y4) × Unit)) : St → Option ((Option Y4) × Unit) := fun st' => run (A_zz41) N (codeAt Try.f104 [1, 0, 1, 0, 0, 1, 1, 0, 0, 1, 1, 0, 0, 1, 1, 1]) st' (iterK ((A_zz41).shape 10) (run (A_zz41) N (codeAt Try.f104 [1, 0, 1, 0, 0, 1, 1, 0, 0, 1, 1, 0, 0])) m (zz41_E5 kX kO))
theorem zz41_after8 (N : Nat) (m : Nat) (kX : St → Option ((Option Y4) × Unit)) (kO : Nat → St → Option ((Option Y4) × Unit)) (l0 : Y1) (x3 : Int) (t10 : Int) (t11 : Int) (t18 : Int) (t19 : Int) : zz41_X8 (zz41_k8 N m kX kO) l0 x3 t10 t11 t18 t19 = zz41_a8 (zz41_R5 N m (zz41_E5 kX kO)) l0 x3 t10 t11 t18 t19 := by kernel_rfl
theorem zz41_in8 (N : Nat) (m : Nat) (kX : St → Option ((Option Y4) × Unit)) (kO : Nat → St → Option ((Option Y4) × Unit)) (recF : Y1 → Int → Int → Int → Int → Int → Option ((Option Y4) × Unit)) (hrec : zz41_R5 N m (zz41_E5 kX kO) = recF) (l0 : Y1) (x3 : Int) (y4 : Int) (t10 : Int) (t11 : Int) (t18 : Int) (t19 : Int) (t26 : Int) (t27 : Int) : zz41_R8 N N (zz41_K8 N m kX kO) l0 x3 y4 t10 t11 t18 t19 t26 t27 = zz41_F8 N recF (zz41_X5 kX) l0 x3 y4 t10 t11 t18 t19 t26 t27 :=
  have h : zz41_X8 (zz41_k8 N m kX kO) = (zz41_a8 recF) := (funext fun l0 => (funext fun x3 => (funext fun t10 => (funext fun t11 => (funext fun t18 => (funext fun t19 => (zz41_after8 N m kX kO l0 x3 t10 t11 t18 t19).trans (by rw [hrec])))))))
  ((iter_ex (fun st => by kernel_rfl) (fun st => by kernel_rfl)).trans (zz41_iter8 N (zz41_k8 N m kX kO) (fun j st => (zz41_K8 N m kX kO) (.exit j) st) N l0 x3 y4 t10 t11 t18 t19 t26 t27)).trans (congrArg (fun k => zz41_l8 N k N l0 x3 y4 t10 t11 t18 t19 t26 t27) h)
theorem zz41_step5 (N : Nat) (m : Nat) (kX : St → Option ((Option Y4) × Unit)) (kO : Nat → St → Option ((Option Y4) × Unit)) (l0 : Y1) (x3 : Int) (t10 : Int) (t11 : Int) (t18 : Int) (t19 : Int) : zz41_R5 N (m + 1) (zz41_E5 kX kO) l0 x3 t10 t11 t18 t19 = zz41_b5 (zz41_R8 N N (zz41_K8 N m kX kO)) (zz41_X5 kX) l0 x3 t10 t11 t18 t19 := by kernel_rfl
theorem zz41_iter5 (N : Nat) (kX : St → Option ((Option Y4) × Unit)) (kO : Nat → St → Option ((Option Y4) × Unit)) : ∀ (n : Nat) (l0 : Y1) (x3 : Int) (t10 : Int) (t11 : Int) (t18 : Int) (t19 : Int), zz41_R5 N n (zz41_E5 kX kO) l0 x3 t10 t11 t18 t19 = zz41_l5 N (zz41_X5 kX) n l0 x3 t10 t11 t18 t19
  | 0, _, _, _, _, _, _ => rfl
  | m + 1, l0, x3, t10, t11, t18, t19 => by
    have hrec : zz41_R5 N m (zz41_E5 kX kO) = (zz41_l5 N (zz41_X5 kX) m) := (funext fun l0 => (funext fun x3 => (funext fun t10 => (funext fun t11 => (funext fun t18 => (funext fun t19 => zz41_iter5 N kX kO m l0 x3 t10 t11 t18 t19))))))
    refine (zz41_step5 N m kX kO l0 x3 t10 t11 t18 t19).trans ?_
    rw [(funext fun l0 => (funext fun x3 => (funext fun y4 => (funext fun t10 => (funext fun t11 => (funext fun t18 => (funext fun t19 => (funext fun t26 => (funext fun t27 => zz41_in8 N m kX kO (zz41_l5 N (zz41_X5 kX) m) hrec l0 x3 y4 t10 t11 t18 t19 t26 t27)))))))))]
    rfl
noncomputable abbrev zz41_K5 (N : Nat) (m : Nat) (kX : St → Option ((Option Y4) × Unit)) (kO : Nat → St → Option ((Option Y4) × Unit)) : Ex → St → Option ((Option Y4) × Unit) := (blockK 2 (blockK 1 (seqK ((A_zz41).shape 29) (run (A_zz41) N (codeAt Try.f104 [1, 0, 1, 0, 0, 1, 1, 1])) (iterK ((A_zz41).shape 4) (run (A_zz41) N (codeAt Try.f104 [1, 0, 1, 0, 0])) m (zz41_E2 kX kO)))))
noncomputable abbrev zz41_k5 (N : Nat) (m : Nat) (kX : St → Option ((Option Y4) × Unit)) (kO : Nat → St → Option ((Option Y4) × Unit)) : St → Option ((Option Y4) × Unit) := fun st' => run (A_zz41) N (codeAt Try.f104 [1, 0, 1, 0, 0, 1, 1, 1]) st' (iterK ((A_zz41).shape 4) (run (A_zz41) N (codeAt Try.f104 [1, 0, 1, 0, 0])) m (zz41_E2 kX kO))
theorem zz41_after5 (N : Nat) (m : Nat) (kX : St → Option ((Option Y4) × Unit)) (kO : Nat → St → Option ((Option Y4) × Unit)) (l0 : Y1) (t10 : Int) (t11 : Int) : zz41_X5 (zz41_k5 N m kX kO) l0 t10 t11 = zz41_a5 (zz41_R2 N m (zz41_E2 kX kO)) l0 t10 t11 := by kernel_rfl
theorem zz41_in5 (N : Nat) (m : Nat) (kX : St → Option ((Option Y4) × Unit)) (kO : Nat → St → Option ((Option Y4) × Unit)) (recF : Y1 → Int → Int → Option ((Option Y4) × Unit)) (hrec : zz41_R2 N m (zz41_E2 kX kO) = recF) (l0 : Y1) (x3 : Int) (t10 : Int) (t11 : Int) (t18 : Int) (t19 : Int) : zz41_R5 N N (zz41_K5 N m kX kO) l0 x3 t10 t11 t18 t19 = zz41_F5 N recF (zz41_X2 kX) l0 x3 t10 t11 t18 t19 :=
  have h : zz41_X5 (zz41_k5 N m kX kO) = (zz41_a5 recF) := (funext fun l0 => (funext fun t10 => (funext fun t11 => (zz41_after5 N m kX kO l0 t10 t11).trans (by rw [hrec]))))
  ((iter_ex (fun st => by kernel_rfl) (fun st => by kernel_rfl)).trans (zz41_iter5 N (zz41_k5 N m kX kO) (fun j st => (zz41_K5 N m kX kO) (.exit j) st) N l0 x3 t10 t11 t18 t19)).trans (congrArg (fun k => zz41_l5 N k N l0 x3 t10 t11 t18 t19) h)
theorem zz41_step2 (N : Nat) (m : Nat) (kX : St → Option ((Option Y4) × Unit)) (kO : Nat → St → Option ((Option Y4) × Unit)) (l0 : Y1) (t10 : Int) (t11 : Int) : zz41_R2 N (m + 1) (zz41_E2 kX kO) l0 t10 t11 = zz41_b2 (zz41_R5 N N (zz41_K5 N m kX kO)) (zz41_X2 kX) l0 t10 t11 := by kernel_rfl
theorem zz41_iter2 (N : Nat) (kX : St → Option ((Option Y4) × Unit)) (kO : Nat → St → Option ((Option Y4) × Unit)) : ∀ (n : Nat) (l0 : Y1) (t10 : Int) (t11 : Int), zz41_R2 N n (zz41_E2 kX kO) l0 t10 t11 = zz41_l2 N (zz41_X2 kX) n l0 t10 t11
  | 0, _, _, _ => rfl
  | m + 1, l0, t10, t11 => by
    have hrec : zz41_R2 N m (zz41_E2 kX kO) = (zz41_l2 N (zz41_X2 kX) m) := (funext fun l0 => (funext fun t10 => (funext fun t11 => zz41_iter2 N kX kO m l0 t10 t11)))
    refine (zz41_step2 N m kX kO l0 t10 t11).trans ?_
    rw [(funext fun l0 => (funext fun x3 => (funext fun t10 => (funext fun t11 => (funext fun t18 => (funext fun t19 => zz41_in5 N m kX kO (zz41_l2 N (zz41_X2 kX) m) hrec l0 x3 t10 t11 t18 t19))))))]
    rfl
noncomputable abbrev zz41_K2 (N : Nat) : Ex → St → Option ((Option Y4) × Unit) := (blockK 0 (seqK ((A_zz41).shape 31) (run (A_zz41) N (codeAt Try.f104 [1, 1])) zz41_z))
noncomputable abbrev zz41_k2 (N : Nat) : St → Option ((Option Y4) × Unit) := fun st' => run (A_zz41) N (codeAt Try.f104 [1, 1]) st' zz41_z
theorem zz41_after2 (N : Nat) : zz41_X2 (zz41_k2 N) = zz41_a2 := by kernel_rfl
theorem zz41_in2 (N : Nat) (l0 : Y1) (t10 : Int) (t11 : Int) : zz41_R2 N N (zz41_K2 N) l0 t10 t11 = zz41_F2 N l0 t10 t11 :=
  have h : zz41_X2 (zz41_k2 N) = (zz41_a2) := zz41_after2 N
  ((iter_ex (fun st => by kernel_rfl) (fun st => by kernel_rfl)).trans (zz41_iter2 N (zz41_k2 N) (fun j st => (zz41_K2 N) (.exit j) st) N l0 t10 t11)).trans (congrArg (fun k => zz41_l2 N k N l0 t10 t11) h)
theorem run0_zz41 (N : Nat) (x : (S_zz41).a.den) : runF (A_zz41) N Try.f104 S_zz41 x = (zz41_s (zz41_R2 N N (zz41_K2 N)) x.1) := by kernel_rfl
theorem run_zz41 (N : Nat) (x : (S_zz41).a.den) : runF (A_zz41) N Try.f104 S_zz41 x = zz41 N x.1 := by
  refine (run0_zz41 N x).trans ?_
  rw [(funext fun l0 => (funext fun t10 => (funext fun t11 => zz41_in2 N l0 t10 t11)))]
  rfl
theorem fn_zz41 : FnOk Try.prog 104 := ⟨_, Try.func104, by kernel_rfl, by kernel_rfl⟩
theorem good_zz41 : Gx.Good Try.prog 104 S_zz41 := good_of_run Try.func104 (of_decide_eq_true (by kernel_rfl)) fun x r h => ⟨A_zz41, big, mkCfg_ok tabOk, mkCfg_sigs (show SigsOk Try.prog [] from trivial), (run_zz41 big x).trans h⟩

/-! zz42 -/
def zz42_s (p_0 : Y2) : Option ((Y1 × (Bool × Unit)) × Unit) :=
  (zz40 p_0).bind fun rq1 =>
  cond rq1.1.2.1
  ((zz41 big rq1.1.1).bind fun rq2 =>
  some ((rq1.1.1, rq2.1.isNone, ()), (())))
  (some ((rq1.1.1, false, ()), (())))
def zz42 (p_0 : Y2) : Option ((Y1 × (Bool × Unit)) × Unit) := zz42_s p_0
def S_zz42 : Sig := { a := (.pair (.pair (.sl (.sl I)) .unit) .unit), md := [0], mf := [], m := .unit, r := (.tup (.pair (.opt (.pair (.sl (.sl .bool)) (.pair (.sl (.sl I)) (.pair (.sl (.sl I)) .unit)))) (.pair .bool .unit))), rf := .i, f := fun x => zz42 x.1 }
def A_zz42 : Cfg := mkCfg tab [(28, S_zz40), (104, S_zz41)] []
theorem run_zz42 (N : Nat) (x : (S_zz42).a.den) : runF (A_zz42) N Try.f80 S_zz42 x = zz42 x.1 := by kernel_rfl
theorem fn_zz42 : FnOk Try.prog 80 := ⟨_, Try.func80, by kernel_rfl, by kernel_rfl⟩
theorem good_zz42 : Gx.Good Try.prog 80 S_zz42 := good_of_run Try.func80 (of_decide_eq_true (by kernel_rfl)) fun x r h => ⟨A_zz42, big, mkCfg_ok tabOk, mkCfg_sigs (show SigsOk Try.prog [(28, S_zz40), (104, S_zz41)] from ⟨⟨fn_zz40, good_zz40⟩, ⟨fn_zz41, good_zz41⟩, trivial⟩), (run_zz42 big x).trans h⟩

/-! zz43 -/
def zz43_b3 (rec : Y1 → Int → Int → Int → Option (Int × Unit)) (k : Int → Option (Int × Unit)) (l0 : Y1) (b3 : Int) (t9 : Int) (t10 : Int) : Option (Int × Unit) :=
  cond (decide (t10 < t9))
  ((l0).bind fun xq2 =>
  (atI xq2.2.1 b3).bind fun xq3 =>
  (atI xq3 t10).bind fun xq4 =>
  rec l0 xq4 t9 (IntKind.i64.wrap (t10 + (1 : Int))))
  (k b3)
def zz43_a3 (b3 : Int) : Option (Int × Unit) :=
  some (b3, (()))
def zz43_s (L3 : Y1 → Int → Int → Int → Option (Int × Unit)) (l_0 : Y1) : Option (Int × Unit) :=
  (l_0).bind fun xq1 =>
  L3 l_0 (0 : Int) (xq1.1.length : Int) (0 : Int)
def zz43_l3 (N : Nat) (k : Int → Option (Int × Unit)) : Nat → Y1 → Int → Int → Int → Option (Int × Unit)
  | 0, _, _, _, _ => none
  | m + 1, l0, b3, t9, t10 => zz43_b3 (zz43_l3 N k m) k l0 b3 t9 t10
def zz43_F3 (N : Nat) (l0 : Y1) (b3 : Int) (t9 : Int) (t10 : Int) : Option (Int × Unit) := zz43_l3 N (zz43_a3) N l0 b3 t9 t10
def zz43 (N : Nat) (l_0 : Y1) : Option (Int × Unit) := zz43_s (zz43_F3 N) l_0
def S_zz43 : Sig := { a := (.pair (.opt (.pair (.sl (.sl .bool)) (.pair (.sl (.sl I)) (.pair (.sl (.sl I)) .unit)))) .unit), md := [0], mf := [], m := .unit, r := I, rf := .i, f := fun x => zz43 big x.1 }
def A_zz43 : Cfg := mkCfg tab [] [(6, [.as (.opt (.pair (.sl (.sl .bool)) (.pair (.sl (.sl I)) (.pair (.sl (.sl I)) .unit)))) .i, .drop, .drop, .as I .i, .drop, .drop, .drop, .drop, .drop, .as I .i, .as I .i]), (15, [.drop, .drop, .drop, .as I .i])]
noncomputable def zz43_R3 (N n : Nat) (K : Ex → St → Option (Int × Unit)) (l0 : Y1) (b3 : Int) (t9 : Int) (t10 : Int) : Option (Int × Unit) := iter ((A_zz43).shape 6) (run (A_zz43) N (codeAt Try.f45 [1, 1, 0, 1, 0, 0])) n ([.val (.opt (.pair (.sl (.sl .bool)) (.pair (.sl (.sl I)) (.pair (.sl (.sl I)) .unit)))) .i l0, .u, .u, .val I .i b3, .u, .u, .u, .u, .u, .val I .i t9, .val I .i t10] ++ List.replicate 14 .u) K
noncomputable abbrev zz43_z : Ex → St → Option (Int × Unit) := finish (A_zz43) S_zz43 Try.f45.results.toList
noncomputable abbrev zz43_X3 (kX : St → Option (Int × Unit)) : Int → Option (Int × Unit) := fun (b3 : Int) => kX ([.u, .u, .u, .val I .i b3] ++ List.replicate 21 .u)
noncomputable abbrev zz43_E3 (kX : St → Option (Int × Unit)) (kO : Nat → St → Option (Int × Unit)) : Ex → St → Option (Int × Unit) := exK zz43_z 0 ((A_zz43).shape 15) kX kO
theorem zz43_step3 (N : Nat) (m : Nat) (kX : St → Option (Int × Unit)) (kO : Nat → St → Option (Int × Unit)) (l0 : Y1) (b3 : Int) (t9 : Int) (t10 : Int) : zz43_R3 N (m + 1) (zz43_E3 kX kO) l0 b3 t9 t10 = zz43_b3 (zz43_R3 N m (zz43_E3 kX kO)) (zz43_X3 kX) l0 b3 t9 t10 := by kernel_rfl
theorem zz43_iter3 (N : Nat) (kX : St → Option (Int × Unit)) (kO : Nat → St → Option (Int × Unit)) : ∀ (n : Nat) (l0 : Y1) (b3 : Int) (t9 : Int) (t10 : Int), zz43_R3 N n (zz43_E3 kX kO) l0 b3 t9 t10 = zz43_l3 N (zz43_X3 kX) n l0 b3 t9 t10
  | 0, _, _, _, _ => rfl
  | m + 1, l0, b3, t9, t10 => by
    have hrec : zz43_R3 N m (zz43_E3 kX kO) = (zz43_l3 N (zz43_X3 kX) m) := (funext fun l0 => (funext fun b3 => (funext fun t9 => (funext fun t10 => zz43_iter3 N kX kO m l0 b3 t9 t10))))
    refine (zz43_step3 N m kX kO l0 b3 t9 t10).trans ?_
    rw [hrec]
    rfl
noncomputable abbrev zz43_K3 (N : Nat) : Ex → St → Option (Int × Unit) := (blockK 0 (seqK ((A_zz43).shape 15) (run (A_zz43) N (codeAt Try.f45 [1, 1, 1])) zz43_z))
noncomputable abbrev zz43_k3 (N : Nat) : St → Option (Int × Unit) := fun st' => run (A_zz43) N (codeAt Try.f45 [1, 1, 1]) st' zz43_z
theorem zz43_after3 (N : Nat) (b3 : Int) : zz43_X3 (zz43_k3 N) b3 = zz43_a3 b3 := by kernel_rfl
theorem zz43_in3 (N : Nat) (l0 : Y1) (b3 : Int) (t9 : Int) (t10 : Int) : zz43_R3 N N (zz43_K3 N) l0 b3 t9 t10 = zz43_F3 N l0 b3 t9 t10 :=
  have h : zz43_X3 (zz43_k3 N) = (zz43_a3) := (funext fun b3 => zz43_after3 N b3)
  ((iter_ex (fun st => by kernel_rfl) (fun st => by kernel_rfl)).trans (zz43_iter3 N (zz43_k3 N) (fun j st => (zz43_K3 N) (.exit j) st) N l0 b3 t9 t10)).trans (congrArg (fun k => zz43_l3 N k N l0 b3 t9 t10) h)
theorem run0_zz43 (N : Nat) (x : (S_zz43).a.den) : runF (A_zz43) N Try.f45 S_zz43 x = (zz43_s (zz43_R3 N N (zz43_K3 N)) x.1) := by kernel_rfl
theorem run_zz43 (N : Nat) (x : (S_zz43).a.den) : runF (A_zz43) N Try.f45 S_zz43 x = zz43 N x.1 := by
  refine (run0_zz43 N x).trans ?_
  rw [(funext fun l0 => (funext fun b3 => (funext fun t9 => (funext fun t10 => zz43_in3 N l0 b3 t9 t10))))]
  rfl
theorem fn_zz43 : FnOk Try.prog 45 := ⟨_, Try.func45, by kernel_rfl, by kernel_rfl⟩
theorem good_zz43 : Gx.Good Try.prog 45 S_zz43 := good_of_run Try.func45 (of_decide_eq_true (by kernel_rfl)) fun x r h => ⟨A_zz43, big, mkCfg_ok tabOk, mkCfg_sigs (show SigsOk Try.prog [] from trivial), (run_zz43 big x).trans h⟩

/-! zz44 -/
def zz44_b3 (rec : Y1 → Int → Int → Int → Option (Int × Unit)) (k : Int → Option (Int × Unit)) (l0 : Y1) (t3 : Int) (t9 : Int) (t10 : Int) : Option (Int × Unit) :=
  cond (decide (t10 < t9))
  ((l0).bind fun xq2 =>
  (atI xq2.2.2.1 t3).bind fun xq3 =>
  (atI xq3 t10).bind fun xq4 =>
  rec l0 xq4 t9 (IntKind.i64.wrap (t10 + (1 : Int))))
  (k t3)
def zz44_a3 (t3 : Int) : Option (Int × Unit) :=
  some (t3, (()))
def zz44_s (L3 : Y1 → Int → Int → Int → Option (Int × Unit)) (l_0 : Y1) : Option (Int × Unit) :=
  (l_0).bind fun xq1 =>
  L3 l_0 (0 : Int) (xq1.1.length : Int) (0 : Int)
def zz44_l3 (N : Nat) (k : Int → Option (Int × Unit)) : Nat → Y1 → Int → Int → Int → Option (Int × Unit)
  | 0, _, _, _, _ => none
  | m + 1, l0, t3, t9, t10 => zz44_b3 (zz44_l3 N k m) k l0 t3 t9 t10
def zz44_F3 (N : Nat) (l0 : Y1) (t3 : Int) (t9 : Int) (t10 : Int) : Option (Int × Unit) := zz44_l3 N (zz44_a3) N l0 t3 t9 t10
def zz44 (N : Nat) (l_0 : Y1) : Option (Int × Unit) := zz44_s (zz44_F3 N) l_0
def S_zz44 : Sig := { a := (.pair (.opt (.pair (.sl (.sl .bool)) (.pair (.sl (.sl I)) (.pair (.sl (.sl I)) .unit)))) .unit), md := [0], mf := [], m := .unit, r := I, rf := .i, f := fun x => zz44 big x.1 }
def A_zz44 : Cfg := mkCfg tab [] [(6, [.as (.opt (.pair (.sl (.sl .bool)) (.pair (.sl (.sl I)) (.pair (.sl (.sl I)) .unit)))) .i, .drop, .drop, .as I .i, .drop, .drop, .drop, .drop, .drop, .as I .i, .as I .i]), (15, [.drop, .drop, .drop, .as I .i])]
noncomputable def zz44_R3 (N n : Nat) (K : Ex → St → Option (Int × Unit)) (l0 : Y1) (t3 : Int) (t9 : Int) (t10 : Int) : Option (Int × Unit) := iter ((A_zz44).shape 6) (run (A_zz44) N (codeAt Try.f108 [1, 1, 0, 1, 0, 0])) n ([.val (.opt (.pair (.sl (.sl .bool)) (.pair (.sl (.sl I)) (.pair (.sl (.sl I)) .unit)))) .i l0, .u, .u, .val I .i t3, .u, .u, .u, .u, .u, .val I .i t9, .val I .i t10] ++ List.replicate 14 .u) K
noncomputable abbrev zz44_z : Ex → St → Option (Int × Unit) := finish (A_zz44) S_zz44 Try.f108.results.toList
noncomputable abbrev zz44_X3 (kX : St → Option (Int × Unit)) : Int → Option (Int × Unit) := fun (t3 : Int) => kX ([.u, .u, .u, .val I .i t3] ++ List.replicate 21 .u)
noncomputable abbrev zz44_E3 (kX : St → Option (Int × Unit)) (kO : Nat → St → Option (Int × Unit)) : Ex → St → Option (Int × Unit) := exK zz44_z 0 ((A_zz44).shape 15) kX kO
theorem zz44_step3 (N : Nat) (m : Nat) (kX : St → Option (Int × Unit)) (kO : Nat → St → Option (Int × Unit)) (l0 : Y1) (t3 : Int) (t9 : Int) (t10 : Int) : zz44_R3 N (m + 1) (zz44_E3 kX kO) l0 t3 t9 t10 = zz44_b3 (zz44_R3 N m (zz44_E3 kX kO)) (zz44_X3 kX) l0 t3 t9 t10 := by kernel_rfl
theorem zz44_iter3 (N : Nat) (kX : St → Option (Int × Unit)) (kO : Nat → St → Option (Int × Unit)) : ∀ (n : Nat) (l0 : Y1) (t3 : Int) (t9 : Int) (t10 : Int), zz44_R3 N n (zz44_E3 kX kO) l0 t3 t9 t10 = zz44_l3 N (zz44_X3 kX) n l0 t3 t9 t10
  | 0, _, _, _, _ => rfl
  | m + 1, l0, t3, t9, t10 => by
    have hrec : zz44_R3 N m (zz44_E3 kX kO) = (zz44_l3 N (zz44_X3 kX) m) := (funext fun l0 => (funext fun t3 => (funext fun t9 => (funext fun t10 => zz44_iter3 N kX kO m l0 t3 t9 t10))))
    refine (zz44_step3 N m kX kO l0 t3 t9 t10).trans ?_
    rw [hrec]
    rfl
noncomputable abbrev zz44_K3 (N : Nat) : Ex → St → Option (Int × Unit) := (blockK 0 (seqK ((A_zz44).shape 15) (run (A_zz44) N (codeAt Try.f108 [1, 1, 1])) zz44_z))
noncomputable abbrev zz44_k3 (N : Nat) : St → Option (Int × Unit) := fun st' => run (A_zz44) N (codeAt Try.f108 [1, 1, 1]) st' zz44_z
theorem zz44_after3 (N : Nat) (t3 : Int) : zz44_X3 (zz44_k3 N) t3 = zz44_a3 t3 := by kernel_rfl
theorem zz44_in3 (N : Nat) (l0 : Y1) (t3 : Int) (t9 : Int) (t10 : Int) : zz44_R3 N N (zz44_K3 N) l0 t3 t9 t10 = zz44_F3 N l0 t3 t9 t10 :=
  have h : zz44_X3 (zz44_k3 N) = (zz44_a3) := (funext fun t3 => zz44_after3 N t3)
  ((iter_ex (fun st => by kernel_rfl) (fun st => by kernel_rfl)).trans (zz44_iter3 N (zz44_k3 N) (fun j st => (zz44_K3 N) (.exit j) st) N l0 t3 t9 t10)).trans (congrArg (fun k => zz44_l3 N k N l0 t3 t9 t10) h)
theorem run0_zz44 (N : Nat) (x : (S_zz44).a.den) : runF (A_zz44) N Try.f108 S_zz44 x = (zz44_s (zz44_R3 N N (zz44_K3 N)) x.1) := by kernel_rfl
theorem run_zz44 (N : Nat) (x : (S_zz44).a.den) : runF (A_zz44) N Try.f108 S_zz44 x = zz44 N x.1 := by
  refine (run0_zz44 N x).trans ?_
  rw [(funext fun l0 => (funext fun t3 => (funext fun t9 => (funext fun t10 => zz44_in3 N l0 t3 t9 t10))))]
  rfl
theorem fn_zz44 : FnOk Try.prog 108 := ⟨_, Try.func108, by kernel_rfl, by kernel_rfl⟩
theorem good_zz44 : Gx.Good Try.prog 108 S_zz44 := good_of_run Try.func108 (of_decide_eq_true (by kernel_rfl)) fun x r h => ⟨A_zz44, big, mkCfg_ok tabOk, mkCfg_sigs (show SigsOk Try.prog [] from trivial), (run_zz44 big x).trans h⟩

/-! zz45 -/
def zz45_s (c_0 : Int) (p_1 : Y1) (p_2 : Int) (p_3 : Int) (p_4 : Int) : Option (Bool × Unit) :=
  (p_1).bind fun xq1 =>
  (atI xq1.2.1 c_0).bind fun xq2 =>
  (atI xq2 p_2).bind fun xq3 =>
  cond (decide (xq3 = p_3))
  ((p_1).bind fun xq4 =>
  (atI xq4.2.2.1 c_0).bind fun xq5 =>
  (atI xq5 p_2).bind fun xq6 =>
  some (decide (xq6 = p_4), (())))
  (some (false, (())))
def zz45 (c_0 : Int) (p_1 : Y1) (p_2 : Int) (p_3 : Int) (p_4 : Int) : Option (Bool × Unit) := zz45_s c_0 p_1 p_2 p_3 p_4
def S_zz45 : Sig := { a := (.pair I (.pair (.ptr (.opt (.pair (.sl (.sl .bool)) (.pair (.sl (.sl I)) (.pair (.sl (.sl I)) .unit))))) (.pair (.ptr I) (.pair (.ptr I) (.pair (.ptr I) .unit))))), md := [0, 0, 0, 0, 0], mf := [], m := .unit, r := .bool, rf := .i, f := fun x => zz45 x.1 x.2.1 x.2.2.1 x.2.2.2.1 x.2.2.2.2.1 }
def A_zz45 : Cfg := mkCfg tab [] []
theorem run_zz45 (N : Nat) (x : (S_zz45).a.den) : runF (A_zz45) N Try.f130 S_zz45 x = zz45 x.1 x.2.1 x.2.2.1 x.2.2.2.1 x.2.2.2.2.1 := by kernel_rfl
theorem fn_zz45 : FnOk Try.prog 130 := ⟨_, Try.func130, by kernel_rfl, by kernel_rfl⟩
theorem good_zz45 : Gx.Good Try.prog 130 S_zz45 := good_of_run Try.func130 (of_decide_eq_true (by kernel_rfl)) fun x r h => ⟨A_zz45, big, mkCfg_ok tabOk, mkCfg_sigs (show SigsOk Try.prog [] from trivial), (run_zz45 big x).trans h⟩

/-! zz46 -/
def zz46_b3 (rec : (Y1 × (Int × (Int × (Int × Unit)))) → Y4 → Int → Int → Option (Y4 × Unit)) (k : Y4 → Option (Y4 × Unit)) (so1 : (Y1 × (Int × (Int × (Int × Unit))))) (list5 : Y4) (t9 : Int) (t10 : Int) : Option (Y4 × Unit) :=
  cond (decide (t10 < t9))
  ((zz45 t10 so1.1 so1.2.1 so1.2.2.1 so1.2.2.2.1).bind fun rq1 =>
  cond rq1.1
  ((appI list5 [t10]).bind fun xq2 =>
  rec so1 xq2 t9 (IntKind.i64.wrap (t10 + (1 : Int))))
  (rec so1 list5 t9 (IntKind.i64.wrap (t10 + (1 : Int)))))
  (k list5)
def zz46_a3 (list5 : Y4) : Option (Y4 × Unit) :=
  some (list5, (()))
def zz46_s (L3 : (Y1 × (Int × (Int × (Int × Unit)))) → Y4 → Int → Int → Option (Y4 × Unit)) (o_0 : Y5) (so_1 : (Y1 × (Int × (Int × (Int × Unit))))) : Option (Y4 × Unit) :=
  L3 so_1 [] (o_0.length : Int) (0 : Int)
def zz46_l3 (N : Nat) (k : Y4 → Option (Y4 × Unit)) : Nat → (Y1 × (Int × (Int × (Int × Unit)))) → Y4 → Int → Int → Option (Y4 × Unit)
  | 0, _, _, _, _ => none
  | m + 1, so1, list5, t9, t10 => zz46_b3 (zz46_l3 N k m) k so1 list5 t9 t10
def zz46_F3 (N : Nat) (so1 : (Y1 × (Int × (Int × (Int × Unit))))) (list5 : Y4) (t9 : Int) (t10 : Int) : Option (Y4 × Unit) := zz46_l3 N (zz46_a3) N so1 list5 t9 t10
def zz46 (N : Nat) (o_0 : Y5) (so_1 : (Y1 × (Int × (Int × (Int × Unit))))) : Option (Y4 × Unit) := zz46_s (zz46_F3 N) o_0 so_1
def S_zz46 : Sig := { a := (.pair (.sl (.sl .bool)) (.pair (.clo 130 0 (.pair (.ptr (.opt (.pair (.sl (.sl .bool)) (.pair (.sl (.sl I)) (.pair (.sl (.sl I)) .unit))))) (.pair (.ptr I) (.pair (.ptr I) (.pair (.ptr I) .unit))))) .unit)), md := [0, 0], mf := [], m := .unit, r := (.sl I), rf := (.o .i), f := fun x => zz46 big x.1 x.2.1 }
def A_zz46 : Cfg := mkCfg tab [(130, S_zz45)] [(6, [.drop, .as (.clo 130 0 (.pair (.ptr (.opt (.pair (.sl (.sl .bool)) (.pair (.sl (.sl I)) (.pair (.sl (.sl I)) .unit))))) (.pair (.ptr I) (.pair (.ptr I) (.pair (.ptr I) .unit))))) .i, .drop, .drop, .drop, .as (.sl I) (.o .i), .drop, .drop, .drop, .as I .i, .as I .i]), (17, [.drop, .drop, .drop, .drop, .drop, .as (.sl I) (.o .i)])]
noncomputable def zz46_R3 (N n : Nat) (K : Ex → St → Option (Y4 × Unit)) (so1 : (Y1 × (Int × (Int × (Int × Unit))))) (list5 : Y4) (t9 : Int) (t10 : Int) : Option (Y4 × Unit) := iter ((A_zz46).shape 6) (run (A_zz46) N (codeAt Try.f68 [1, 1, 0, 1, 0, 0])) n ([.u, .val (.clo 130 0 (.pair (.ptr (.opt (.pair (.sl (.sl .bool)) (.pair (.sl (.sl I)) (.pair (.sl (.sl I)) .unit))))) (.pair (.ptr I) (.pair (.ptr I) (.pair (.ptr I) .unit))))) .i so1, .u, .u, .u, .val (.sl I) (.o .i) list5, .u, .u, .u, .val I .i t9, .val I .i t10] ++ List.replicate 11 .u) K
noncomputable abbrev zz46_z : Ex → St → Option (Y4 × Unit) := finish (A_zz46) S_zz46 Try.f68.results.toList
noncomputable abbrev zz46_X3 (kX : St → Option (Y4 × Unit)) : Y4 → Option (Y4 × Unit) := fun (list5 : Y4) => kX ([.u, .u, .u, .u, .u, .val (.sl I) (.o .i) list5] ++ List.replicate 16 .u)
noncomputable abbrev zz46_E3 (kX : St → Option (Y4 × Unit)) (kO : Nat → St → Option (Y4 × Unit)) : Ex → St → Option (Y4 × Unit) := exK zz46_z 0 ((A_zz46).shape 17) kX kO
theorem zz46_step3 (N : Nat) (m : Nat) (kX : St → Option (Y4 × Unit)) (kO : Nat → St → Option (Y4 × Unit)) (so1 : (Y1 × (Int × (Int × (Int × Unit))))) (list5 : Y4) (t9 : Int) (t10 : Int) : zz46_R3 N (m + 1) (zz46_E3 kX kO) so1 list5 t9 t10 = zz46_b3 (zz46_R3 N m (zz46_E3 kX kO)) (zz46_X3 kX) so1 list5 t9 t10 := by kernel_rfl
theorem zz46_iter3 (N : Nat) (kX : St → Option (Y4 × Unit)) (kO : Nat → St → Option (Y4 × Unit)) : ∀ (n : Nat) (so1 : (Y1 × (Int × (Int × (Int × Unit))))) (list5 : Y4) (t9 : Int) (t10 : Int), zz46_R3 N n (zz46_E3 kX kO) so1 list5 t9 t10 = zz46_l3 N (zz46_X3 kX) n so1 list5 t9 t10
  | 0, _, _, _, _ => rfl
  | m + 1, so1, list5, t9, t10 => by
    have hrec : zz46_R3 N m (zz46_E3 kX kO) = (zz46_l3 N (zz46_X3 kX) m) := (funext fun so1 => (funext fun list5 => (funext fun t9 => (funext fun t10 => zz46_iter3 N kX kO m so1 list5 t9 t10))))
    refine (zz46_step3 N m kX kO so1 list5 t9 t10).trans ?_
    rw [hrec]
    rfl
noncomputable abbrev zz46_K3 (N : Nat) : Ex → St → Option (Y4 × Unit) := (blockK 0 (seqK ((A_zz46).shape 17) (run (A_zz46) N (codeAt Try.f68 [1, 1, 1])) zz46_z))
noncomputable abbrev zz46_k3 (N : Nat) : St → Option (Y4 × Unit) := fun st' => run (A_zz46) N (codeAt Try.f68 [1, 1, 1]) st' zz46_z
theorem zz46_after3 (N : Nat) (list5 : Y4) : zz46_X3 (zz46_k3 N) list5 = zz46_a3 list5 := by kernel_rfl
theorem zz46_in3 (N : Nat) (so1 : (Y1 × (Int × (Int × (Int × Unit))))) (list5 : Y4) (t9 : Int) (t10 : Int) : zz46_R3 N N (zz46_K3 N) so1 list5 t9 t10 = zz46_F3 N so1 list5 t9 t10 :=
  have h : zz46_X3 (zz46_k3 N) = (zz46_a3) := (funext fun list5 => zz46_after3 N list5)
  ((iter_ex (fun st => by kernel_rfl) (fun st => by kernel_rfl)).trans (zz46_iter3 N (zz46_k3 N) (fun j st => (zz46_K3 N) (.exit j) st) N so1 list5 t9 t10)).trans (congrArg (fun k => zz46_l3 N k N so1 list5 t9 t10) h)
theorem run0_zz46 (N : Nat) (x : (S_zz46).a.den) : runF (A_zz46) N Try.f68 S_zz46 x = (zz46_s (zz46_R3 N N (zz46_K3 N)) x.1 x.2.1) := by kernel_rfl
theorem run_zz46 (N : Nat) (x : (S_zz46).a.den) : runF (A_zz46) N Try.f68 S_zz46 x = zz46 N x.1 x.2.1 := by
  refine (run0_zz46 N x).trans ?_
  rw [(funext fun so1 => (funext fun list5 => (funext fun t9 => (funext fun t10 => zz46_in3 N so1 list5 t9 t10))))]
  rfl
theorem fn_zz46 : FnOk Try.prog 68 := ⟨_, Try.func68, by kernel_rfl, by kernel_rfl⟩
theorem good_zz46 : Gx.Good Try.prog 68 S_zz46 := good_of_run Try.func68 (of_decide_eq_true (by kernel_rfl)) fun x r h => ⟨A_zz46, big, mkCfg_ok tabOk, mkCfg_sigs (show SigsOk Try.prog [(130, S_zz45)] from ⟨⟨fn_zz45, good_zz45⟩, trivial⟩), (run_zz46 big x).trans h⟩

/-! zz47 -/
def zz47_s (l_0 : Y1) (x_1 : Int) (y_2 : Int) (z_3 : Int) : Option (Y4 × Unit) :=
  (l_0).bind fun xq1 =>
  (zz46 big xq1.1 (l_0, y_2, x_1, z_3, ())).bind fun rq2 =>
  some (rq2.1, (()))
def zz47 (l_0 : Y1) (x_1 : Int) (y_2 : Int) (z_3 : Int) : Option (Y4 × Unit) := zz47_s l_0 x_1 y_2 z_3
def S_zz47 : Sig := { a := (.pair (.opt (.pair (.sl (.sl .bool)) (.pair (.sl (.sl I)) (.pair (.sl (.sl I)) .unit)))) (.pair I (.pair I (.pair I .unit)))), md := [0, 0, 0, 0], mf := [], m := .unit, r := (.sl I), rf := (.o .i), f := fun x => zz47 x.1 x.2.1 x.2.2.1 x.2.2.2.1 }
def A_zz47 : Cfg := mkCfg tab [(68, S_zz46)] [(3, [.drop, .drop, .drop, .drop, .as (.ptr (.opt (.pair (.sl (.sl .bool)) (.pair (.sl (.sl I)) (.pair (.sl (.sl I)) .unit))))) .i, .as (.ptr I) .i, .as (.ptr I) .i, .as (.ptr I) .i])]
theorem run_zz47 (N : Nat) (x : (S_zz47).a.den) : runF (A_zz47) N Try.f107 S_zz47 x = zz47 x.1 x.2.1 x.2.2.1 x.2.2.2.1 := by kernel_rfl
theorem fn_zz47 : FnOk Try.prog 107 := ⟨_, Try.func107, by kernel_rfl, by kernel_rfl⟩
theorem good_zz47 : Gx.Good Try.prog 107 S_zz47 := good_of_run Try.func107 (of_decide_eq_true (by kernel_rfl)) fun x r h => ⟨A_zz47, big, mkCfg_ok tabOk, mkCfg_sigs (show SigsOk Try.prog [(68, S_zz46)] from ⟨⟨fn_zz46, good_zz46⟩, trivial⟩), (run_zz47 big x).trans h⟩

/-! zz48 -/
def zz48_s (l_0 : Y1) (x_1 : Int) : Option (Y4 × Unit) :=
  (zz43 big l_0).bind fun rq1 =>
  (zz44 big l_0).bind fun rq2 =>
  (zz47 l_0 rq1.1 x_1 rq2.1).bind fun rq3 =>
  some (rq3.1, (()))
def zz48 (l_0 : Y1) (x_1 : Int) : Option (Y4 × Unit) := zz48_s l_0 x_1
def S_zz48 : Sig := { a := (.pair (.opt (.pair (.sl (.sl .bool)) (.pair (.sl (.sl I)) (.pair (.sl (.sl I)) .unit)))) (.pair I .unit)), md := [0, 0], mf := [], m := .unit, r := (.sl I), rf := (.o .i), f := fun x => zz48 x.1 x.2.1 }
def A_zz48 : Cfg := mkCfg tab [(45, S_zz43), (108, S_zz44), (107, S_zz47)] []
theorem run_zz48 (N : Nat) (x : (S_zz48).a.den) : runF (A_zz48) N Try.f82 S_zz48 x = zz48 x.1 x.2.1 := by kernel_rfl
theorem fn_zz48 : FnOk Try.prog 82 := ⟨_, Try.func82, by kernel_rfl, by kernel_rfl⟩
theorem good_zz48 : Gx.Good Try.prog 82 S_zz48 := good_of_run Try.func82 (of_decide_eq_true (by kernel_rfl)) fun x r h => ⟨A_zz48, big, mkCfg_ok tabOk, mkCfg_sigs (show SigsOk Try.prog [(45, S_zz43), (108, S_zz44), (107, S_zz47)] from ⟨⟨fn_zz43, good_zz43⟩, ⟨fn_zz44, good_zz44⟩, ⟨fn_zz47, good_zz47⟩, trivial⟩), (run_zz48 big x).trans h⟩

/-! zz49 -/
def zz49_s (x_0 : Int) (p_1 : Y1) : Option (Bool × Unit) :=
  (zz48 p_1 x_0).bind fun rq1 =>
  some (decide ((rq1.1.length : Int) = (0 : Int)), (()))
def zz49 (x_0 : Int) (p_1 : Y1) : Option (Bool × Unit) := zz49_s x_0 p_1
def S_zz49 : Sig := { a := (.pair I (.pair (.ptr (.opt (.pair (.sl (.sl .bool)) (.pair (.sl (.sl I)) (.pair (.sl (.sl I)) .unit))))) .unit)), md := [0, 0], mf := [], m := .unit, r := .bool, rf := .i, f := fun x => zz49 x.1 x.2.1 }
def A_zz49 : Cfg := mkCfg tab [(82, S_zz48)] []
theorem run_zz49 (N : Nat) (x : (S_zz49).a.den) : runF (A_zz49) N Try.f106 S_zz49 x = zz49 x.1 x.2.1 := by kernel_rfl
theorem fn_zz49 : FnOk Try.prog 106 := ⟨_, Try.func106, by kernel_rfl, by kernel_rfl⟩
theorem good_zz49 : Gx.Good Try.prog 106 S_zz49 := good_of_run Try.func106 (of_decide_eq_true (by kernel_rfl)) fun x r h => ⟨A_zz49, big, mkCfg_ok tabOk, mkCfg_sigs (show SigsOk Try.prog [(82, S_zz48)] from ⟨⟨fn_zz48, good_zz48⟩, trivial⟩), (run_zz49 big x).trans h⟩

/-! zz50 -/
def zz50_b3 (rec : (Y1 × Unit) → Y4 → Int → Int → Option (Y4 × Unit)) (k : Y4 → Option (Y4 × Unit)) (so1 : (Y1 × Unit)) (list5 : Y4) (t9 : Int) (t10 : Int) : Option (Y4 × Unit) :=
  cond (decide (t10 < t9))
  ((zz49 t10 so1.1).bind fun rq1 =>
  cond rq1.1
  ((appI list5 [t10]).bind fun xq2 =>
  rec so1 xq2 t9 (IntKind.i64.wrap (t10 + (1 : Int))))
  (rec so1 list5 t9 (IntKind.i64.wrap (t10 + (1 : Int)))))
  (k list5)
def zz50_a3 (list5 : Y4) : Option (Y4 × Unit) :=
  some (list5, (()))
def zz50_s (L3 : (Y1 × Unit) → Y4 → Int → Int → Option (Y4 × Unit)) (o_0 : Y5) (so_1 : (Y1 × Unit)) : Option (Y4 × Unit) :=
  L3 so_1 [] (o_0.length : Int) (0 : Int)
def zz50_l3 (N : Nat) (k : Y4 → Option (Y4 × Unit)) : Nat → (Y1 × Unit) → Y4 → Int → Int → Option (Y4 × Unit)
  | 0, _, _, _, _ => none
  | m + 1, so1, list5, t9, t10 => zz50_b3 (zz50_l3 N k m) k so1 list5 t9 t10
def zz50_F3 (N : Nat) (so1 : (Y1 × Unit)) (list5 : Y4) (t9 : Int) (t10 : Int) : Option (Y4 × Unit) := zz50_l3 N (zz50_a3) N so1 list5 t9 t10
def zz50 (N : Nat) (o_0 : Y5) (so_1 : (Y1 × Unit)) : Option (Y4 × Unit) := zz50_s (zz50_F3 N) o_0 so_1
def S_zz50 : Sig := { a := (.pair (.sl (.sl .bool)) (.pair (.clo 106 0 (.pair (.ptr (.opt (.pair (.sl (.sl .bool)) (.pair (.sl (.sl I)) (.pair (.sl (.sl I)) .unit))))) .unit)) .unit)), md := [0, 0], mf := [], m := .unit, r := (.sl I), rf := (.o .i), f := fun x => zz50 big x.1 x.2.1 }
def A_zz50 : Cfg := mkCfg tab [(106, S_zz49)] [(6, [.drop, .as (.clo 106 0 (.pair (.ptr (.opt (.pair (.sl (.sl .bool)) (.pair (.sl (.sl I)) (.pair (.sl (.sl I)) .unit))))) .unit)) .i, .drop, .drop, .drop, .as (.sl I) (.o .i), .drop, .drop, .drop, .as I .i, .as I .i]), (17, [.drop, .drop, .drop, .drop, .drop, .as (.sl I) (.o .i)])]
noncomputable def zz50_R3 (N n : Nat) (K : Ex → St → Option (Y4 × Unit)) (so1 : (Y1 × Unit)) (list5 : Y4) (t9 : Int) (t10 : Int) : Option (Y4 × Unit) := iter ((A_zz50).shape 6) (run (A_zz50) N (codeAt Try.f68 [1, 1, 0, 1, 0, 0])) n ([.u, .val (.clo 106 0 (.pair (.ptr (.opt (.pair (.sl (.sl .bool)) (.pair (.sl (.sl I)) (.pair (.sl (.sl I)) .unit))))) .unit)) .i so1, .u, .u, .u, .val (.sl I) (.o .i) list5, .u, .u, .u, .val I .i t9, .val I .i t10] ++ List.replicate 11 .u) K
noncomputable abbrev zz50_z : Ex → St → Option (Y4 × Unit) := finish (A_zz50) S_zz50 Try.f68.results.toList
noncomputable abbrev zz50_X3 (kX : St → Option (Y4 × Unit)) : Y4 → Option (Y4 × Unit) := fun (list5 : Y4) => kX ([.u, .u, .u, .u, .u, .val (.sl I) (.o .i) list5] ++ List.replicate 16 .u)
noncomputable abbrev zz50_E3 (kX : St → Option (Y4 × Unit)) (kO : Nat → St → Option (Y4 × Unit)) : Ex → St → Option (Y4 × Unit) := exK zz50_z 0 ((A_zz50).shape 17) kX kO
theorem zz50_step3 (N : Nat) (m : Nat) (kX : St → Option (Y4 × Unit)) (kO : Nat → St → Option (Y4 × Unit)) (so1 : (Y1 × Unit)) (list5 : Y4) (t9 : Int) (t10 : Int) : zz50_R3 N (m + 1) (zz50_E3 kX kO) so1 list5 t9 t10 = zz50_b3 (zz50_R3 N m (zz50_E3 kX kO)) (zz50_X3 kX) so1 list5 t9 t10 := by kernel_rfl
theorem zz50_iter3 (N : Nat) (kX : St → Option (Y4 × Unit)) (kO : Nat → St → Option (Y4 × Unit)) : ∀ (n : Nat) (so1 : (Y1 × Unit)) (list5 : Y4) (t9 : Int) (t10 : Int), zz50_R3 N n (zz50_E3 kX kO) so1 list5 t9 t10 = zz50_l3 N (zz50_X3 kX) n so1 list5 t9 t10
  | 0, _, _, _, _ => rfl
  | m + 1, so1, list5, t9, t10 => by
    have hrec : zz50_R3 N m (zz50_E3 kX kO) = (zz50_l3 N (zz50_X3 kX) m) := (funext fun so1 => (funext fun list5 => (funext fun t9 => (funext fun t10 => zz50_iter3 N kX kO m so1 list5 t9 t10))))
    refine (zz50_step3 N m kX kO so1 list5 t9 t10).trans ?_
    rw [hrec]
    rfl
noncomputable abbrev zz50_K3 (N : Nat) : Ex → St → Option (Y4 × Unit) := (blockK 0 (seqK ((A_zz50).shape 17) (run (A_zz50) N (codeAt Try.f68 [1, 1, 1])) zz50_z))
noncomputable abbrev zz50_k3 (N : Nat) : St → Option (Y4 × Unit) := fun st' => run (A_zz50) N (codeAt Try.f68 [1, 1, 1]) st' zz50_z
theorem zz50_after3 (N : Nat) (list5 : Y4) : zz50_X3 (zz50_k3 N) list5 = zz50_a3 list5 := by kernel_rfl
theorem zz50_in3 (N : Nat) (so1 : (Y1 × Unit)) (list5 : Y4) (t9 : Int) (t10 : Int) : zz50_R3 N N (zz50_K3 N) so1 list5 t9 t10 = zz50_F3 N so1 list5 t9 t10 :=
  have h : zz50_X3 (zz50_k3 N) = (zz50_a3) := (funext fun list5 => zz50_after3 N list5)
  ((iter_ex (fun st => by kernel_rfl) (fun st => by kernel_rfl)).trans (zz50_iter3 N (zz50_k3 N) (fun j st => (zz50_K3 N) (.exit j) st) N so1 list5 t9 t10)).trans (congrArg (fun k => zz50_l3 N k N so1 list5 t9 t10) h)
theorem run0_zz50 (N : Nat) (x : (S_zz50).a.den) : runF (A_zz50) N Try.f68 S_zz50 x = (zz50_s (zz50_R3 N N (zz50_K3 N)) x.1 x.2.1) := by kernel_rfl
theorem run_zz50 (N : Nat) (x : (S_zz50).a.den) : runF (A_zz50) N Try.f68 S_zz50 x = zz50 N x.1 x.2.1 := by
  refine (run0_zz50 N x).trans ?_
  rw [(funext fun so1 => (funext fun list5 => (funext fun t9 => (funext fun t10 => zz50_in3 N so1 list5 t9 t10))))]
  rfl
theorem fn_zz50 : FnOk Try.prog 68 := ⟨_, Try.func68, by kernel_rfl, by kernel_rfl⟩
theorem good_zz50 : Gx.Good Try.prog 68 S_zz50 := good_of_run Try.func68 (of_decide_eq_true (by kernel_rfl)) fun x r h => ⟨A_zz50, big, mkCfg_ok tabOk, mkCfg_sigs (show SigsOk Try.prog [(106, S_zz49)] from ⟨⟨fn_zz49, good_zz49⟩, trivial⟩), (run_zz50 big x).trans h⟩

/-! zz51 -/
def zz51_s (o_0 : Y5) (so_1 : (Y1 × Unit)) : Option (Bool × Unit) :=
  (zz50 big o_0 so_1).bind fun rq1 =>
  some (decide ((rq1.1.length : Int) = (0 : Int)), (()))
def zz51 (o_0 : Y5) (so_1 : (Y1 × Unit)) : Option (Bool × Unit) := zz51_s o_0 so_1
def S_zz51 : Sig := { a := (.pair (.sl (.sl .bool)) (.pair (.clo 106 0 (.pair (.ptr (.opt (.pair (.sl (.sl .bool)) (.pair (.sl (.sl I)) (.pair (.sl (.sl I)) .unit))))) .unit)) .unit)), md := [0, 0], mf := [], m := .unit, r := .bool, rf := .i, f := fun x => zz51 x.1 x.2.1 }
def A_zz51 : Cfg := mkCfg tab [(68, S_zz50)] []
theorem run_zz51 (N : Nat) (x : (S_zz51).a.den) : runF (A_zz51) N Try.f105 S_zz51 x = zz51 x.1 x.2.1 := by kernel_rfl
theorem fn_zz51 : FnOk Try.prog 105 := ⟨_, Try.func105, by kernel_rfl, by kernel_rfl⟩
theorem good_zz51 : Gx.Good Try.prog 105 S_zz51 := good_of_run Try.func105 (of_decide_eq_true (by kernel_rfl)) fun x r h => ⟨A_zz51, big, mkCfg_ok tabOk, mkCfg_sigs (show SigsOk Try.prog [(68, S_zz50)] from ⟨⟨fn_zz50, good_zz50⟩, trivial⟩), (run_zz51 big x).trans h⟩

/-! zz52 -/
def zz52_s (l_0 : Y1) : Option (Bool × Unit) :=
  (l_0).bind fun xq1 =>
  (zz51 xq1.1 (l_0, ())).bind fun rq2 =>
  some (rq2.1, (()))
def zz52 (l_0 : Y1) : Option (Bool × Unit) := zz52_s l_0
def S_zz52 : Sig := { a := (.pair (.opt (.pair (.sl (.sl .bool)) (.pair (.sl (.sl I)) (.pair (.sl (.sl I)) .unit)))) .unit), md := [0], mf := [], m := .unit, r := .bool, rf := .i, f := fun x => zz52 x.1 }
def A_zz52 : Cfg := mkCfg tab [(105, S_zz51)] [(3, [.drop, .as (.ptr (.opt (.pair (.sl (.sl .bool)) (.pair (.sl (.sl I)) (.pair (.sl (.sl I)) .unit))))) .i])]
theorem run_zz52 (N : Nat) (x : (S_zz52).a.den) : runF (A_zz52) N Try.f81 S_zz52 x = zz52 x.1 := by kernel_rfl
theorem fn_zz52 : FnOk Try.prog 81 := ⟨_, Try.func81, by kernel_rfl, by kernel_rfl⟩
theorem good_zz52 : Gx.Good Try.prog 81 S_zz52 := good_of_run Try.func81 (of_decide_eq_true (by kernel_rfl)) fun x r h => ⟨A_zz52, big, mkCfg_ok tabOk, mkCfg_sigs (show SigsOk Try.prog [(105, S_zz51)] from ⟨⟨fn_zz51, good_zz51⟩, trivial⟩), (run_zz52 big x).trans h⟩

/-! zz53 -/
def zz53_s (p_0 : Y2) : Option ((Y1 × (Bool × Unit)) × Unit) :=
  (zz42 p_0).bind fun rq1 =>
  cond rq1.1.2.1
  ((zz52 rq1.1.1).bind fun rq2 =>
  some ((rq1.1.1, rq2.1, ()), (())))
  (some ((rq1.1.1, false, ()), (())))
def zz53 (p_0 : Y2) : Option ((Y1 × (Bool × Unit)) × Unit) := zz53_s p_0
def S_zz53 : Sig := { a := (.pair (.pair (.sl (.sl I)) .unit) .unit), md := [0], mf := [], m := .unit, r := (.tup (.pair (.opt (.pair (.sl (.sl .bool)) (.pair (.sl (.sl I)) (.pair (.sl (.sl I)) .unit)))) (.pair .bool .unit))), rf := .i, f := fun x => zz53 x.1 }
def A_zz53 : Cfg := mkCfg tab [(80, S_zz42), (81, S_zz52)] []
theorem run_zz53 (N : Nat) (x : (S_zz53).a.den) : runF (A_zz53) N Try.f40 S_zz53 x = zz53 x.1 := by kernel_rfl
theorem fn_zz53 : FnOk Try.prog 40 := ⟨_, Try.func40, by kernel_rfl, by kernel_rfl⟩
theorem good_zz53 : Gx.Good Try.prog 40 S_zz53 := good_of_run Try.func40 (of_decide_eq_true (by kernel_rfl)) fun x r h => ⟨A_zz53, big, mkCfg_ok tabOk, mkCfg_sigs (show SigsOk Try.prog [(80, S_zz42), (81, S_zz52)] from ⟨⟨fn_zz42, good_zz42⟩, ⟨fn_zz52, good_zz52⟩, trivial⟩), (run_zz53 big x).trans h⟩

/-! zz54 -/
def zz54_b3 (rec : Y1 → Y4 → Int → Int → Option (Y4 × Unit)) (k : Y4 → Option (Y4 × Unit)) (l0 : Y1) (list3 : Y4) (t10 : Int) (t11 : Int) : Option (Y4 × Unit) :=
  cond (decide (t11 < t10))
  ((zz48 l0 t11).bind fun rq2 =>
  (atI rq2.1 (0 : Int)).bind fun _ =>
  (rq2.1[(0 : Int).toNat]?).bind fun xq3 =>
  (appI list3 [xq3]).bind fun xq4 =>
  rec l0 xq4 t10 (IntKind.i64.wrap (t11 + (1 : Int))))
  (k list3)
def zz54_a3 (list3 : Y4) : Option (Y4 × Unit) :=
  some (list3, (()))
def zz54_s (L3 : Y1 → Y4 → Int → Int → Option (Y4 × Unit)) (l_0 : Y1) : Option (Y4 × Unit) :=
  (l_0).bind fun xq1 =>
  L3 l_0 [] (xq1.1.length : Int) (0 : Int)
def zz54_l3 (N : Nat) (k : Y4 → Option (Y4 × Unit)) : Nat → Y1 → Y4 → Int → Int → Option (Y4 × Unit)
  | 0, _, _, _, _ => none
  | m + 1, l0, list3, t10, t11 => zz54_b3 (zz54_l3 N k m) k l0 list3 t10 t11
def zz54_F3 (N : Nat) (l0 : Y1) (list3 : Y4) (t10 : Int) (t11 : Int) : Option (Y4 × Unit) := zz54_l3 N (zz54_a3) N l0 list3 t10 t11
def zz54 (N : Nat) (l_0 : Y1) : Option (Y4 × Unit) := zz54_s (zz54_F3 N) l_0
def S_zz54 : Sig := { a := (.pair (.opt (.pair (.sl (.sl .bool)) (.pair (.sl (.sl I)) (.pair (.sl (.sl I)) .unit)))) .unit), md := [0], mf := [], m := .unit, r := (.sl I), rf := (.o .i), f := fun x => zz54 big x.1 }
def A_zz54 : Cfg := mkCfg tab [(82, S_zz48)] [(6, [.as (.opt (.pair (.sl (.sl .bool)) (.pair (.sl (.sl I)) (.pair (.sl (.sl I)) .unit)))) .i, .drop, .drop, .as (.sl I) (.o .i), .drop, .drop, .drop, .drop, .drop, .drop, .as I .i, .as I .i]), (15, [.drop, .drop, .drop, .as (.sl I) (.o .i)])]
noncomputable def zz54_R3 (N n : Nat) (K : Ex → St → Option (Y4 × Unit)) (l0 : Y1) (list3 : Y4) (t10 : Int) (t11 : Int) : Option (Y4 × Unit) := iter ((A_zz54).shape 6) (run (A_zz54) N (codeAt Try.f41 [1, 1, 0, 1, 0, 0])) n ([.val (.opt (.pair (.sl (.sl .bool)) (.pair (.sl (.sl I)) (.pair (.sl (.sl I)) .unit)))) .i l0, .u, .u, .val (.sl I) (.o .i) list3, .u, .u, .u, .u, .u, .u, .val I .i t10, .val I .i t11] ++ List.replicate 12 .u) K
noncomputable abbrev zz54_z : Ex → St → Option (Y4 × Unit) := finish (A_zz54) S_zz54 Try.f41.results.toList
noncomputable abbrev zz54_X3 (kX : St → Option (Y4 × Unit)) : Y4 → Option (Y4 × Unit) := fun (list3 : Y4) => kX ([.u, .u, .u, .val (.sl I) (.o .i) list3] ++ List.replicate 20 .u)
noncomputable abbrev zz54_E3 (kX : St → Option (Y4 × Unit)) (kO : Nat → St → Option (Y4 × Unit)) : Ex → St → Option (Y4 × Unit) := exK zz54_z 0 ((A_zz54).shape 15) kX kO
theorem zz54_step3 (N : Nat) (m : Nat) (kX : St → Option (Y4 × Unit)) (kO : Nat → St → Option (Y4 × Unit)) (l0 : Y1) (list3 : Y4) (t10 : Int) (t11 : Int) : zz54_R3 N (m + 1) (zz54_E3 kX kO) l0 list3 t10 t11 = zz54_b3 (zz54_R3 N m (zz54_E3 kX kO)) (zz54_X3 kX) l0 list3 t10 t11 := by kernel_rfl
theorem zz54_iter3 (N : Nat) (kX : St → Option (Y4 × Unit)) (kO : Nat → St → Option (Y4 × Unit)) : ∀ (n : Nat) (l0 : Y1) (list3 : Y4) (t10 : Int) (t11 : Int), zz54_R3 N n (zz54_E3 kX kO) l0 list3 t10 t11 = zz54_l3 N (zz54_X3 kX) n l0 list3 t10 t11
  | 0, _, _, _, _ => rfl
  | m + 1, l0, list3, t10, t11 => by
    have hrec : zz54_R3 N m (zz54_E3 kX kO) = (zz54_l3 N (zz54_X3 kX) m) := (funext fun l0 => (funext fun list3 => (funext fun t10 => (funext fun t11 => zz54_iter3 N kX kO m l0 list3 t10 t11))))
    refine (zz54_step3 N m kX kO l0 list3 t10 t11).trans ?_
    rw [hrec]
    rfl
noncomputable abbrev zz54_K3 (N : Nat) : Ex → St → Option (Y4 × Unit) := (blockK 0 (seqK ((A_zz54).shape 15) (run (A_zz54) N (codeAt Try.f41 [1, 1, 1])) zz54_z))
noncomputable abbrev zz54_k3 (N : Nat) : St → Option (Y4 × Unit) := fun st' => run (A_zz54) N (codeAt Try.f41 [1, 1, 1]) st' zz54_z
theorem zz54_after3 (N : Nat) (list3 : Y4) : zz54_X3 (zz54_k3 N) list3 = zz54_a3 list3 := by kernel_rfl
theorem zz54_in3 (N : Nat) (l0 : Y1) (list3 : Y4) (t10 : Int) (t11 : Int) : zz54_R3 N N (zz54_K3 N) l0 list3 t10 t11 = zz54_F3 N l0 list3 t10 t11 :=
  have h : zz54_X3 (zz54_k3 N) = (zz54_a3) := (funext fun list3 => zz54_after3 N list3)
  ((iter_ex (fun st => by kernel_rfl) (fun st => by kernel_rfl)).trans (zz54_iter3 N (zz54_k3 N) (fun j st => (zz54_K3 N) (.exit j) st) N l0 list3 t10 t11)).trans (congrArg (fun k => zz54_l3 N k N l0 list3 t10 t11) h)
theorem run0_zz54 (N : Nat) (x : (S_zz54).a.den) : runF (A_zz54) N Try.f41 S_zz54 x = (zz54_s (zz54_R3 N N (zz54_K3 N)) x.1) := by kernel_rfl
theorem run_zz54 (N : Nat) (x : (S_zz54).a.den) : runF (A_zz54) N Try.f41 S_zz54 x = zz54 N x.1 := by
  refine (run0_zz54 N x).trans ?_
  rw [(funext fun l0 => (funext fun list3 => (funext fun t10 => (funext fun t11 => zz54_in3 N l0 list3 t10 t11))))]
  rfl
theorem fn_zz54 : FnOk Try.prog 41 := ⟨_, Try.func41, by kernel_rfl, by kernel_rfl⟩
theorem good_zz54 : Gx.Good Try.prog 41 S_zz54 := good_of_run Try.func41 (of_decide_eq_true (by kernel_rfl)) fun x r h => ⟨A_zz54, big, mkCfg_ok tabOk, mkCfg_sigs (show SigsOk Try.prog [(82, S_zz48)] from ⟨⟨fn_zz48, good_zz48⟩, trivial⟩), (run_zz54 big x).trans h⟩

/-! zz55 -/
def zz55_b3 (rec : Int → Y4 → Int → Option (Y4 × Unit)) (k : Y4 → Option (Y4 × Unit)) (mask0 : Int) (list3 : Y4) (x4 : Int) : Option (Y4 × Unit) :=
  (shrI IntKind.i64 mask0 x4).bind fun xq1 =>
  cond (decide ((0 : Int) < xq1))
  ((shrI IntKind.i64 mask0 x4).bind fun xq2 =>
  cond (decide ((bitI .and IntKind.i64 xq2 (1 : Int)) = (1 : Int)))
  ((appI list3 [x4]).bind fun xq3 =>
  rec mask0 xq3 (IntKind.i64.wrap (x4 + (1 : Int))))
  (rec mask0 list3 (IntKind.i64.wrap (x4 + (1 : Int)))))
  (k list3)
def zz55_a3 (list3 : Y4) : Option (Y4 × Unit) :=
  some (list3, (()))
def zz55_s (L3 : Int → Y4 → Int → Option (Y4 × Unit)) (mask_0 : Int) : Option (Y4 × Unit) :=
  L3 mask_0 [] (0 : Int)
def zz55_l3 (N : Nat) (k : Y4 → Option (Y4 × Unit)) : Nat → Int → Y4 → Int → Option (Y4 × Unit)
  | 0, _, _, _ => none
  | m + 1, mask0, list3, x4 => zz55_b3 (zz55_l3 N k m) k mask0 list3 x4
def zz55_F3 (N : Nat) (mask0 : Int) (list3 : Y4) (x4 : Int) : Option (Y4 × Unit) := zz55_l3 N (zz55_a3) N mask0 list3 x4
def zz55 (N : Nat) (mask_0 : Int) : Option (Y4 × Unit) := zz55_s (zz55_F3 N) mask_0
def S_zz55 : Sig := { a := (.pair I .unit), md := [0], mf := [], m := .unit, r := (.sl I), rf := (.o .i), f := fun x => zz55 big x.1 }
def A_zz55 : Cfg := mkCfg tab [] [(6, [.as I .i, .drop, .drop, .as (.sl I) (.o .i), .as I .i]), (15, [.drop, .drop, .drop, .as (.sl I) (.o .i)])]
noncomputable def zz55_R3 (N n : Nat) (K : Ex → St → Option (Y4 × Unit)) (mask0 : Int) (list3 : Y4) (x4 : Int) : Option (Y4 × Unit) := iter ((A_zz55).shape 6) (run (A_zz55) N (codeAt Try.f42 [1, 1, 0, 1, 0, 0])) n ([.val I .i mask0, .u, .u, .val (.sl I) (.o .i) list3, .val I .i x4] ++ List.replicate 17 .u) K
noncomputable abbrev zz55_z : Ex → St → Option (Y4 × Unit) := finish (A_zz55) S_zz55 Try.f42.results.toList
noncomputable abbrev zz55_X3 (kX : St → Option (Y4 × Unit)) : Y4 → Option (Y4 × Unit) := fun (list3 : Y4) => kX ([.u, .u, .u, .val (.sl I) (.o .i) list3] ++ List.replicate 18 .u)
noncomputable abbrev zz55_E3 (kX : St → Option (Y4 × Unit)) (kO : Nat → St → Option (Y4 × Unit)) : Ex → St → Option (Y4 × Unit) := exK zz55_z 0 ((A_zz55).shape 15) kX kO
theorem zz55_step3 (N : Nat) (m : Nat) (kX : St → Option (Y4 × Unit)) (kO : Nat → St → Option (Y4 × Unit)) (mask0 : Int) (list3 : Y4) (x4 : Int) : zz55_R3 N (m + 1) (zz55_E3 kX kO) mask0 list3 x4 = zz55_b3 (zz55_R3 N m (zz55_E3 kX kO)) (zz55_X3 kX) mask0 list3 x4 := by kernel_rfl
theorem zz55_iter3 (N : Nat) (kX : St → Option (Y4 × Unit)) (kO : Nat → St → Option (Y4 × Unit)) : ∀ (n : Nat) (mask0 : Int) (list3 : Y4) (x4 : Int), zz55_R3 N n (zz55_E3 kX kO) mask0 list3 x4 = zz55_l3 N (zz55_X3 kX) n mask0 list3 x4
  | 0, _, _, _ => rfl
  | m + 1, mask0, list3, x4 => by
    have hrec : zz55_R3 N m (zz55_E3 kX kO) = (zz55_l3 N (zz55_X3 kX) m) := (funext fun mask0 => (funext fun list3 => (funext fun x4 => zz55_iter3 N kX kO m mask0 list3 x4)))
    refine (zz55_step3 N m kX kO mask0 list3 x4).trans ?_
    rw [hrec]
    rfl
noncomputable abbrev zz55_K3 (N : Nat) : Ex → St → Option (Y4 × Unit) := (blockK 0 (seqK ((A_zz55).shape 15) (run (A_zz55) N (codeAt Try.f42 [1, 1, 1])) zz55_z))
noncomputable abbrev zz55_k3 (N : Nat) : St → Option (Y4 × Unit) := fun st' => run (A_zz55) N (codeAt Try.f42 [1, 1, 1]) st' zz55_z
theorem zz55_after3 (N : Nat) (list3 : Y4) : zz55_X3 (zz55_k3 N) list3 = zz55_a3 list3 := by kernel_rfl
theorem zz55_in3 (N : Nat) (mask0 : Int) (list3 : Y4) (x4 : Int) : zz55_R3 N N (zz55_K3 N) mask0 list3 x4 = zz55_F3 N mask0 list3 x4 :=
  have h : zz55_X3 (zz55_k3 N) = (zz55_a3) := (funext fun list3 => zz55_after3 N list3)
  ((iter_ex (fun st => by kernel_rfl) (fun st => by kernel_rfl)).trans (zz55_iter3 N (zz55_k3 N) (fun j st => (zz55_K3 N) (.exit j) st) N mask0 list3 x4)).trans (congrArg (fun k => zz55_l3 N k N mask0 list3 x4) h)
theorem run0_zz55 (N : Nat) (x : (S_zz55).a.den) : runF (A_zz55) N Try.f42 S_zz55 x = (zz55_s (zz55_R3 N N (zz55_K3 N)) x.1) := by kernel_rfl
theorem run_zz55 (N : Nat) (x : (S_zz55).a.den) : runF (A_zz55) N Try.f42 S_zz55 x = zz55 N x.1 := by
  refine (run0_zz55 N x).trans ?_
  rw [(funext fun mask0 => (funext fun list3 => (funext fun x4 => zz55_in3 N mask0 list3 x4)))]
  rfl
theorem fn_zz55 : FnOk Try.prog 42 := ⟨_, Try.func42, by kernel_rfl, by kernel_rfl⟩
theorem good_zz55 : Gx.Good Try.prog 42 S_zz55 := good_of_run Try.func42 (of_decide_eq_true (by kernel_rfl)) fun x r h => ⟨A_zz55, big, mkCfg_ok tabOk, mkCfg_sigs (show SigsOk Try.prog [] from trivial), (run_zz55 big x).trans h⟩

/-! zz56 -/
def zz56_s (o_0 : Y5) (list_1 : Y4) : Option (Bool × Unit) :=
  (zz32 big list_1 (o_0.length : Int)).bind fun rq1 =>
  some (rq1.1, (()))
def zz56 (o_0 : Y5) (list_1 : Y4) : Option (Bool × Unit) := zz56_s o_0 list_1
def S_zz56 : Sig := { a := (.pair (.sl (.sl .bool)) (.pair (.sl I) .unit)), md := [0, 0], mf := [], m := .unit, r := .bool, rf := .i, f := fun x => zz56 x.1 x.2.1 }
def A_zz56 : Cfg := mkCfg tab [(93, S_zz32)] []
theorem run_zz56 (N : Nat) (x : (S_zz56).a.den) : runF (A_zz56) N Try.f83 S_zz56 x = zz56 x.1 x.2.1 := by kernel_rfl
theorem fn_zz56 : FnOk Try.prog 83 := ⟨_, Try.func83, by kernel_rfl, by kernel_rfl⟩
theorem good_zz56 : Gx.Good Try.prog 83 S_zz56 := good_of_run Try.func83 (of_decide_eq_true (by kernel_rfl)) fun x r h => ⟨A_zz56, big, mkCfg_ok tabOk, mkCfg_sigs (show SigsOk Try.prog [(93, S_zz32)] from ⟨⟨fn_zz32, good_zz32⟩, trivial⟩), (run_zz56 big x).trans h⟩

/-! zz57 -/
def zz57_b3 (rec : (List Bool) → Y4 → Int → Int → Option ((List Bool) × Unit)) (k : (List Bool) → Option ((List Bool) × Unit)) (have5 : (List Bool)) (t10 : Y4) (t11 : Int) (t12 : Int) : Option ((List Bool) × Unit) :=
  cond (decide (t12 < t11))
  ((atI t10 t12).bind fun xq3 =>
  (atI have5 xq3).bind fun _ =>
  (have5[xq3.toNat]?).bind fun xq4 =>
  rec (have5.set xq3.toNat true) t10 t11 (IntKind.i64.wrap (t12 + (1 : Int))))
  (k have5)
def zz57_a3 (have5 : (List Bool)) : Option ((List Bool) × Unit) :=
  some (have5, (()))
def zz57_s (L3 : (List Bool) → Y4 → Int → Int → Option ((List Bool) × Unit)) (list_0 : Y4) (n_1 : Int) : Option ((List Bool) × Unit) :=
  (mkI false n_1).bind fun xq1 => (mkI false n_1).bind fun xq2 => cond (decide (n_1 ≤ n_1))
  (L3 xq2 list_0 (list_0.length : Int) (0 : Int))
  none
def zz57_l3 (N : Nat) (k : (List Bool) → Option ((List Bool) × Unit)) : Nat → (List Bool) → Y4 → Int → Int → Option ((List Bool) × Unit)
  | 0, _, _, _, _ => none
  | m + 1, have5, t10, t11, t12 => zz57_b3 (zz57_l3 N k m) k have5 t10 t11 t12
def zz57_F3 (N : Nat) (have5 : (List Bool)) (t10 : Y4) (t11 : Int) (t12 : Int) : Option ((List Bool) × Unit) := zz57_l3 N (zz57_a3) N have5 t10 t11 t12
def zz57 (N : Nat) (list_0 : Y4) (n_1 : Int) : Option ((List Bool) × Unit) := zz57_s (zz57_F3 N) list_0 n_1
def S_zz57 : Sig := { a := (.pair (.sl I) (.pair I .unit)), md := [0, 0], mf := [], m := .unit, r := (.sl .bool), rf := (.o .i), f := fun x => zz57 big x.1 x.2.1 }
def A_zz57 : Cfg := mkCfg tab [] [(6, [.drop, .drop, .drop, .drop, .drop, .as (.sl .bool) (.o .i), .drop, .drop, .drop, .drop, .as (.sl I) .i, .as I .i, .as I .i]), (15, [.drop, .drop, .drop, .drop, .drop, .as (.sl .bool) (.o .i)])]
noncomputable def zz57_R3 (N n : Nat) (K : Ex → St → Option ((List Bool) × Unit)) (have5 : (List Bool)) (t10 : Y4) (t11 : Int) (t12 : Int) : Option ((List Bool) × Unit) := iter ((A_zz57).shape 6) (run (A_zz57) N (codeAt Try.f109 [1, 1, 0, 1, 0, 0])) n ([.u, .u, .u, .u, .u, .val (.sl .bool) (.o .i) have5, .u, .u, .u, .u, .val (.sl I) .i t10, .val I .i t11, .val I .i t12] ++ List.replicate 8 .u) K
noncomputable abbrev zz57_z : Ex → St → Option ((List Bool) × Unit) := finish (A_zz57) S_zz57 Try.f109.results.toList
noncomputable abbrev zz57_X3 (kX : St → Option ((List Bool) × Unit)) : (List Bool) → Option ((List Bool) × Unit) := fun (have5 : (List Bool)) => kX ([.u, .u, .u, .u, .u, .val (.sl .bool) (.o .i) have5] ++ List.replicate 15 .u)
noncomputable abbrev zz57_E3 (kX : St → Option ((List Bool) × Unit)) (kO : Nat → St → Option ((List Bool) × Unit)) : Ex → St → Option ((List Bool) × Unit) := exK zz57_z 0 ((A_zz57).shape 15) kX kO
theorem zz57_step3 (N : Nat) (m : Nat) (kX : St → Option ((List Bool) × Unit)) (kO : Nat → St → Option ((List Bool) × Unit)) (have5 : (List Bool)) (t10 : Y4) (t11 : Int) (t12 : Int) : zz57_R3 N (m + 1) (zz57_E3 kX kO) have5 t10 t11 t12 = zz57_b3 (zz57_R3 N m (zz57_E3 kX kO)) (zz57_X3 kX) have5 t10 t11 t12 := by kernel_rfl
theorem zz57_iter3 (N : Nat) (kX : St → Option ((List Bool) × Unit)) (kO : Nat → St → Option ((List Bool) × Unit)) : ∀ (n : Nat) (have5 : (List Bool)) (t10 : Y4) (t11 : Int) (t12 : Int), zz57_R3 N n (zz57_E3 kX kO) have5 t10 t11 t12 = zz57_l3 N (zz57_X3 kX) n have5 t10 t11 t12
  | 0, _, _, _, _ => rfl
  | m + 1, have5, t10, t11, t12 => by
    have hrec : zz57_R3 N m (zz57_E3 kX kO) = (zz57_l3 N (zz57_X3 kX) m) := (funext fun have5 => (funext fun t10 => (funext fun t11 => (funext fun t12 => zz57_iter3 N kX kO m have5 t10 t11 t12))))
    refine (zz57_step3 N m kX kO have5 t10 t11 t12).trans ?_
    rw [hrec]
    rfl
noncomputable abbrev zz57_K3 (N : Nat) : Ex → St → Option ((List Bool) × Unit) := (blockK 0 (seqK ((A_zz57).shape 15) (run (A_zz57) N (codeAt Try.f109 [1, 1, 1])) zz57_z))
noncomputable abbrev zz57_k3 (N : Nat) : St → Option ((List Bool) × Unit) := fun st' => run (A_zz57) N (codeAt Try.f109 [1, 1, 1]) st' zz57_z
theorem zz57_after3 (N : Nat) (have5 : (List Bool)) : zz57_X3 (zz57_k3 N) have5 = zz57_a3 have5 := by kernel_rfl
theorem zz57_in3 (N : Nat) (have5 : (List Bool)) (t10 : Y4) (t11 : Int) (t12 : Int) : zz57_R3 N N (zz57_K3 N) have5 t10 t11 t12 = zz57_F3 N have5 t10 t11 t12 :=
  have h : zz57_X3 (zz57_k3 N) = (zz57_a3) := (funext fun have5 => zz57_after3 N have5)
  ((iter_ex (fun st => by kernel_rfl) (fun st => by kernel_rfl)).trans (zz57_iter3 N (zz57_k3 N) (fun j st => (zz57_K3 N) (.exit j) st) N have5 t10 t11 t12)).trans (congrArg (fun k => zz57_l3 N k N have5 t10 t11 t12) h)
theorem run0_zz57 (N : Nat) (x : (S_zz57).a.den) : runF (A_zz57) N Try.f109 S_zz57 x = (zz57_s (zz57_R3 N N (zz57_K3 N)) x.1 x.2.1) := by kernel_rfl
theorem run_zz57 (N : Nat) (x : (S_zz57).a.den) : runF (A_zz57) N Try.f109 S_zz57 x = zz57 N x.1 x.2.1 := by
  refine (run0_zz57 N x).trans ?_
  rw [(funext fun have5 => (funext fun t10 => (funext fun t11 => (funext fun t12 => zz57_in3 N have5 t10 t11 t12))))]
  rfl
theorem fn_zz57 : FnOk Try.prog 109 := ⟨_, Try.func109, by kernel_rfl, by kernel_rfl⟩
theorem good_zz57 : Gx.Good Try.prog 109 S_zz57 := good_of_run Try.func109 (of_decide_eq_true (by kernel_rfl)) fun x r h => ⟨A_zz57, big, mkCfg_ok tabOk, mkCfg_sigs (show SigsOk Try.prog [] from trivial), (run_zz57 big x).trans h⟩

/-! zz58 -/
def zz58_b3 (rec : Y4 → (List Bool) → Int → Int → Option (Y4 × Unit)) (k : Y4 → Option (Y4 × Unit)) (list3 : Y4) (t7 : (List Bool)) (t8 : Int) (t9 : Int) : Option (Y4 × Unit) :=
  cond (decide (t9 < t8))
  ((atI t7 t9).bind fun xq1 =>
  cond xq1
  ((appI list3 [t9]).bind fun xq2 =>
  rec xq2 t7 t8 (IntKind.i64.wrap (t9 + (1 : Int))))
  (rec list3 t7 t8 (IntKind.i64.wrap (t9 + (1 : Int)))))
  (k list3)
def zz58_a3 (list3 : Y4) : Option (Y4 × Unit) :=
  some (list3, (()))
def zz58_s (L3 : Y4 → (List Bool) → Int → Int → Option (Y4 × Unit)) (have_0 : (List Bool)) : Option (Y4 × Unit) :=
  L3 [] have_0 (have_0.length : Int) (0 : Int)
def zz58_l3 (N : Nat) (k : Y4 → Option (Y4 × Unit)) : Nat → Y4 → (List Bool) → Int → Int → Option (Y4 × Unit)
  | 0, _, _, _, _ => none
  | m + 1, list3, t7, t8, t9 => zz58_b3 (zz58_l3 N k m) k list3 t7 t8 t9
def zz58_F3 (N : Nat) (list3 : Y4) (t7 : (List Bool)) (t8 : Int) (t9 : Int) : Option (Y4 × Unit) := zz58_l3 N (zz58_a3) N list3 t7 t8 t9
def zz58 (N : Nat) (have_0 : (List Bool)) : Option (Y4 × Unit) := zz58_s (zz58_F3 N) have_0
def S_zz58 : Sig := { a := (.pair (.sl .bool) .unit), md := [0], mf := [], m := .unit, r := (.sl I), rf := (.o .i), f := fun x => zz58 big x.1 }
def A_zz58 : Cfg := mkCfg tab [] [(6, [.drop, .drop, .drop, .as (.sl I) (.o .i), .drop, .drop, .drop, .as (.sl .bool) .i, .as I .i, .as I .i]), (17, [.drop, .drop, .drop, .as (.sl I) (.o .i)])]
noncomputable def zz58_R3 (N n : Nat) (K : Ex → St → Option (Y4 × Unit)) (list3 : Y4) (t7 : (List Bool)) (t8 : Int) (t9 : Int) : Option (Y4 × Unit) := iter ((A_zz58).shape 6) (run (A_zz58) N (codeAt Try.f110 [1, 1, 0, 1, 0, 0])) n ([.u, .u, .u, .val (.sl I) (.o .i) list3, .u, .u, .u, .val (.sl .bool) .i t7, .val I .i t8, .val I .i t9] ++ List.replicate 11 .u) K
noncomputable abbrev zz58_z : Ex → St → Option (Y4 × Unit) := finish (A_zz58) S_zz58 Try.f110.results.toList
noncomputable abbrev zz58_X3 (kX : St → Option (Y4 × Unit)) : Y4 → Option (Y4 × Unit) := fun (list3 : Y4) => kX ([.u, .u, .u, .val (.sl I) (.o .i) list3] ++ List.replicate 17 .u)
noncomputable abbrev zz58_E3 (kX : St → Option (Y4 × Unit)) (kO : Nat → St → Option (Y4 × Unit)) : Ex → St → Option (Y4 × Unit) := exK zz58_z 0 ((A_zz58).shape 17) kX kO
theorem zz58_step3 (N : Nat) (m : Nat) (kX : St → Option (Y4 × Unit)) (kO : Nat → St → Option (Y4 × Unit)) (list3 : Y4) (t7 : (List Bool)) (t8 : Int) (t9 : Int) : zz58_R3 N (m + 1) (zz58_E3 kX kO) list3 t7 t8 t9 = zz58_b3 (zz58_R3 N m (zz58_E3 kX kO)) (zz58_X3 kX) list3 t7 t8 t9 := by kernel_rfl
theorem zz58_iter3 (N : Nat) (kX : St → Option (Y4 × Unit)) (kO : Nat → St → Option (Y4 × Unit)) : ∀ (n : Nat) (list3 : Y4) (t7 : (List Bool)) (t8 : Int) (t9 : Int), zz58_R3 N n (zz58_E3 kX kO) list3 t7 t8 t9 = zz58_l3 N (zz58_X3 kX) n list3 t7 t8 t9
  | 0, _, _, _, _ => rfl
  | m + 1, list3, t7, t8, t9 => by
    have hrec : zz58_R3 N m (zz58_E3 kX kO) = (zz58_l3 N (zz58_X3 kX) m) := (funext fun list3 => (funext fun t7 => (funext fun t8 => (funext fun t9 => zz58_iter3 N kX kO m list3 t7 t8 t9))))
    refine (zz58_step3 N m kX kO list3 t7 t8 t9).trans ?_
    rw [hrec]
    rfl
noncomputable abbrev zz58_K3 (N : Nat) : Ex → St → Option (Y4 × Unit) := (blockK 0 (seqK ((A_zz58).shape 17) (run (A_zz58) N (codeAt Try.f110 [1, 1, 1])) zz58_z))
noncomputable abbrev zz58_k3 (N : Nat) : St → Option (Y4 × Unit) := fun st' => run (A_zz58) N (codeAt Try.f110 [1, 1, 1]) st' zz58_z
theorem zz58_after3 (N : Nat) (list3 : Y4) : zz58_X3 (zz58_k3 N) list3 = zz58_a3 list3 := by kernel_rfl
theorem zz58_in3 (N : Nat) (list3 : Y4) (t7 : (List Bool)) (t8 : Int) (t9 : Int) : zz58_R3 N N (zz58_K3 N) list3 t7 t8 t9 = zz58_F3 N list3 t7 t8 t9 :=
  have h : zz58_X3 (zz58_k3 N) = (zz58_a3) := (funext fun list3 => zz58_after3 N list3)
  ((iter_ex (fun st => by kernel_rfl) (fun st => by kernel_rfl)).trans (zz58_iter3 N (zz58_k3 N) (fun j st => (zz58_K3 N) (.exit j) st) N list3 t7 t8 t9)).trans (congrArg (fun k => zz58_l3 N k N list3 t7 t8 t9) h)
theorem run0_zz58 (N : Nat) (x : (S_zz58).a.den) : runF (A_zz58) N Try.f110 S_zz58 x = (zz58_s (zz58_R3 N N (zz58_K3 N)) x.1) := by kernel_rfl
theorem run_zz58 (N : Nat) (x : (S_zz58).a.den) : runF (A_zz58) N Try.f110 S_zz58 x = zz58 N x.1 := by
  refine (run0_zz58 N x).trans ?_
  rw [(funext fun list3 => (funext fun t7 => (funext fun t8 => (funext fun t9 => zz58_in3 N list3 t7 t8 t9))))]
  rfl
theorem fn_zz58 : FnOk Try.prog 110 := ⟨_, Try.func110, by kernel_rfl, by kernel_rfl⟩
theorem good_zz58 : Gx.Good Try.prog 110 S_zz58 := good_of_run Try.func110 (of_decide_eq_true (by kernel_rfl)) fun x r h => ⟨A_zz58, big, mkCfg_ok tabOk, mkCfg_sigs (show SigsOk Try.prog [] from trivial), (run_zz58 big x).trans h⟩

/-! zz59 -/
def zz59_b13 (rec : Y1 → (List Bool) → Bool → Y4 → Int → Int → Int → Int → Int → Y4 → Int → Int → Option (Y4 × Unit)) (k : Y1 → (List Bool) → Bool → Y4 → Int → Int → Int → Int → Int → Option (Y4 × Unit)) (l0 : Y1) (have5 : (List Bool)) (changed6 : Bool) (list7 : Y4) (x9 : Int) (t25 : Int) (t26 : Int) (t31 : Int) (t32 : Int) (t56 : Y4) (t57 : Int) (t58 : Int) : Option (Y4 × Unit) :=
  cond (decide (t58 < t57))
  ((atI t56 t58).bind fun _ =>
  (t56[t58.toNat]?).bind fun xq13 =>
  cond changed6
  ((atI have5 xq13).bind fun _ =>
  (have5[xq13.toNat]?).bind fun xq14 =>
  rec l0 (have5.set xq13.toNat true) true list7 x9 t25 t26 t31 t32 t56 t57 (IntKind.i64.wrap (t58 + (1 : Int))))
  ((atI have5 xq13).bind fun _ =>
  (have5[xq13.toNat]?).bind fun xq15 =>
  (atI have5 xq13).bind fun _ =>
  (have5[xq13.toNat]?).bind fun xq16 =>
  rec l0 (have5.set xq13.toNat true) (!xq15) list7 x9 t25 t26 t31 t32 t56 t57 (IntKind.i64.wrap (t58 + (1 : Int)))))
  (k l0 have5 changed6 list7 x9 t25 t26 t31 t32)
def zz59_a13 (rec : Y1 → (List Bool) → Bool → Y4 → Int → Int → Int → Int → Int → Option (Y4 × Unit)) (l0 : Y1) (have5 : (List Bool)) (changed6 : Bool) (list7 : Y4) (x9 : Int) (t25 : Int) (t26 : Int) (t31 : Int) (t32 : Int) : Option (Y4 × Unit) :=
  rec l0 have5 changed6 list7 x9 t25 t26 t31 (IntKind.i64.wrap (t32 + (1 : Int)))
def zz59_b10 (L13 : Y1 → (List Bool) → Bool → Y4 → Int → Int → Int → Int → Int → Y4 → Int → Int → Option (Y4 × Unit)) (k : Y1 → (List Bool) → Bool → Y4 → Int → Int → Option (Y4 × Unit)) (l0 : Y1) (have5 : (List Bool)) (changed6 : Bool) (list7 : Y4) (x9 : Int) (t25 : Int) (t26 : Int) (t31 : Int) (t32 : Int) : Option (Y4 × Unit) :=
  cond (decide (t32 < t31))
  ((atI list7 t32).bind fun _ =>
  (list7[t32.toNat]?).bind fun xq6 =>
  (l0).bind fun xq7 =>
  (atI xq7.2.1 x9).bind fun xq8 =>
  (atI xq8 xq6).bind fun xq9 =>
  (l0).bind fun xq10 =>
  (atI xq10.2.2.1 x9).bind fun xq11 =>
  (atI xq11 xq6).bind fun xq12 =>
  L13 l0 have5 changed6 list7 x9 t25 t26 t31 t32 [xq9, xq12] ([xq9, xq12].length : Int) (0 : Int))
  (k l0 have5 changed6 list7 t25 t26)
def zz59_a10 (rec : Y1 → (List Bool) → Bool → Y4 → Int → Int → Option (Y4 × Unit)) (l0 : Y1) (have5 : (List Bool)) (changed6 : Bool) (list7 : Y4) (t25 : Int) (t26 : Int) : Option (Y4 × Unit) :=
  rec l0 have5 changed6 list7 t25 (IntKind.i64.wrap (t26 + (1 : Int)))
def zz59_b7 (L10 : Y1 → (List Bool) → Bool → Y4 → Int → Int → Int → Int → Int → Option (Y4 × Unit)) (k : Y1 → (List Bool) → Bool → Option (Y4 × Unit)) (l0 : Y1) (have5 : (List Bool)) (changed6 : Bool) (list7 : Y4) (t25 : Int) (t26 : Int) : Option (Y4 × Unit) :=
  cond (decide (t26 < t25))
  ((atI list7 t26).bind fun _ =>
  (list7[t26.toNat]?).bind fun xq5 =>
  L10 l0 have5 changed6 list7 xq5 t25 t26 (list7.length : Int) (0 : Int))
  (k l0 have5 changed6)
def zz59_a7 (rec : Y1 → (List Bool) → Bool → Option (Y4 × Unit)) (l0 : Y1) (have5 : (List Bool)) (changed6 : Bool) : Option (Y4 × Unit) :=
  rec l0 have5 changed6
def zz59_b3 (L7 : Y1 → (List Bool) → Bool → Y4 → Int → Int → Option (Y4 × Unit)) (k : (List Bool) → Option (Y4 × Unit)) (l0 : Y1) (have5 : (List Bool)) (changed6 : Bool) : Option (Y4 × Unit) :=
  cond changed6
  ((zz58 big have5).bind fun rq3 =>
  L7 l0 have5 false rq3.1 (rq3.1.length : Int) (0 : Int))
  (k have5)
def zz59_a3 (have5 : (List Bool)) : Option (Y4 × Unit) :=
  (zz58 big have5).bind fun rq4 =>
  some (rq4.1, (()))
def zz59_s (L3 : Y1 → (List Bool) → Bool → Option (Y4 × Unit)) (l_0 : Y1) (some_1 : Y4) : Option (Y4 × Unit) :=
  (l_0).bind fun xq1 =>
  (zz57 big some_1 (xq1.1.length : Int)).bind fun rq2 =>
  L3 l_0 rq2.1 true
def zz59_l13 (N : Nat) (k : Y1 → (List Bool) → Bool → Y4 → Int → Int → Int → Int → Int → Option (Y4 × Unit)) : Nat → Y1 → (List Bool) → Bool → Y4 → Int → Int → Int → Int → Int → Y4 → Int → Int → Option (Y4 × Unit)
  | 0, _, _, _, _, _, _, _, _, _, _, _, _ => none
  | m + 1, l0, have5, changed6, list7, x9, t25, t26, t31, t32, t56, t57, t58 => zz59_b13 (zz59_l13 N k m) k l0 have5 changed6 list7 x9 t25 t26 t31 t32 t56 t57 t58
def zz59_F13 (N : Nat) (rec : Y1 → (List Bool) → Bool → Y4 → Int → Int → Int → Int → Int → Option (Y4 × Unit)) (k : Y1 → (List Bool) → Bool → Y4 → Int → Int → Option (Y4 × Unit)) (l0 : Y1) (have5 : (List Bool)) (changed6 : Bool) (list7 : Y4) (x9 : Int) (t25 : Int) (t26 : Int) (t31 : Int) (t32 : Int) (t56 : Y4) (t57 : Int) (t58 : Int) : Option (Y4 × Unit) := zz59_l13 N (zz59_a13 rec) N l0 have5 changed6 list7 x9 t25 t26 t31 t32 t56 t57 t58
def zz59_l10 (N : Nat) (k : Y1 → (List Bool) → Bool → Y4 → Int → Int → Option (Y4 × Unit)) : Nat → Y1 → (List Bool) → Bool → Y4 → Int → Int → Int → Int → Int → Option (Y4 × Unit)
  | 0, _, _, _, _, _, _, _, _, _ => none
  | m + 1, l0, have5, changed6, list7, x9, t25, t26, t31, t32 => zz59_b10 (zz59_F13 N (zz59_l10 N k m) k) k l0 have5 changed6 list7 x9 t25 t26 t31 t32
def zz59_F10 (N : Nat) (rec : Y1 → (List Bool) → Bool → Y4 → Int → Int → Option (Y4 × Unit)) (k : Y1 → (List Bool) → Bool → Option (Y4 × Unit)) (l0 : Y1) (have5 : (List Bool)) (changed6 : Bool) (list7 : Y4) (x9 : Int) (t25 : Int) (t26 : Int) (t31 : Int) (t32 : Int) : Option (Y4 × Unit) := zz59_l10 N (zz59_a10 rec) N l0 have5 changed6 list7 x9 t25 t26 t31 t32
def zz59_l7 (N : Nat) (k : Y1 → (List Bool) → Bool → Option (Y4 × Unit)) : Nat → Y1 → (List Bool) → Bool → Y4 → Int → Int → Option (Y4 × Unit)
  | 0, _, _, _, _, _, _ => none
  | m + 1, l0, have5, changed6, list7, t25, t26 => zz59_b7 (zz59_F10 N (zz59_l7 N k m) k) k l0 have5 changed6 list7 t25 t26
def zz59_F7 (N : Nat) (rec : Y1 → (List Bool) → Bool → Option (Y4 × Unit)) (k : (List Bool) → Option (Y4 × Unit)) (l0 : Y1) (have5 : (List Bool)) (changed6 : Bool) (list7 : Y4) (t25 : Int) (t26 : Int) : Option (Y4 × Unit) := zz59_l7 N (zz59_a7 rec) N l0 have5 changed6 list7 t25 t26
def zz59_l3 (N : Nat) (k : (List Bool) → Option (Y4 × Unit)) : Nat → Y1 → (List Bool) → Bool → Option (Y4 × Unit)
  | 0, _, _, _ => none
  | m + 1, l0, have5, changed6 => zz59_b3 (zz59_F7 N (zz59_l3 N k m) k) k l0 have5 changed6
def zz59_F3 (N : Nat) (l0 : Y1) (have5 : (List Bool)) (changed6 : Bool) : Option (Y4 × Unit) := zz59_l3 N (zz59_a3) N l0 have5 changed6
def zz59 (N : Nat) (l_0 : Y1) (some_1 : Y4) : Option (Y4 × Unit) := zz59_s (zz59_F3 N) l_0 some_1
def S_zz59 : Sig := { a := (.pair (.opt (.pair (.sl (.sl .bool)) (.pair (.sl (.sl I)) (.pair (.sl (.sl I)) .unit)))) (.pair (.sl I) .unit)), md := [0, 0], mf := [], m := .unit, r := (.sl I), rf := (.o .i), f := fun x => zz59 big x.1 x.2.1 }
def A_zz59 : Cfg := mkCfg tab [(109, S_zz57), (110, S_zz58)] [(6, [.as (.opt (.pair (.sl (.sl .bool)) (.pair (.sl (.sl I)) (.pair (.sl (.sl I)) .unit)))) .i, .drop, .drop, .drop, .drop, .as (.sl .bool) (.o .i), .as .bool .i]), (14, [.as (.opt (.pair (.sl (.sl .bool)) (.pair (.sl (.sl I)) (.pair (.sl (.sl I)) .unit)))) .i, .drop, .drop, .drop, .drop, .as (.sl .bool) (.o .i), .as .bool .i, .as (.sl I) (.o .i), .drop, .drop, .drop, .drop, .drop, .drop, .drop, .drop, .drop, .drop, .drop, .drop, .drop, .drop, .drop, .drop, .keep, .as I .i, .as I .i]), (41, [.drop, .drop, .drop, .drop, .drop, .as (.sl .bool) (.o .i)]), (20, [.as (.opt (.pair (.sl (.sl .bool)) (.pair (.sl (.sl I)) (.pair (.sl (.sl I)) .unit)))) .i, .drop, .drop, .drop, .drop, .as (.sl .bool) (.o .i), .as .bool .i, .as (.sl I) (.o .i), .drop, .as I .i, .drop, .drop, .drop, .drop, .drop, .drop, .drop, .drop, .drop, .drop, .drop, .drop, .drop, .drop, .keep, .as I .i, .as I .i, .drop, .drop, .drop, .keep, .as I .i, .as I .i]), (26, [.as (.opt (.pair (.sl (.sl .bool)) (.pair (.sl (.sl I)) (.pair (.sl (.sl I)) .unit)))) .i, .drop, .drop, .drop, .drop, .as (.sl .bool) (.o .i), .as .bool .i, .as (.sl I) (.o .i), .drop, .as I .i, .drop, .drop, .drop, .drop, .drop, .drop, .drop, .drop, .drop, .drop, .drop, .drop, .drop, .drop, .keep, .as I .i, .as I .i, .drop, .drop, .drop, .keep, .as I .i, .as I .i, .drop, .drop, .drop, .drop, .drop, .drop, .drop, .drop, .drop, .drop, .drop, .drop, .drop, .drop, .drop, .drop, .drop, .drop, .drop, .drop, .drop, .drop, .drop, .as (.sl I) (.o .i), .as I .i, .as I .i]), (39, [.as (.opt (.pair (.sl (.sl .bool)) (.pair (.sl (.sl I)) (.pair (.sl (.sl I)) .unit)))) .i, .drop, .drop, .drop, .drop, .as (.sl .bool) (.o .i), .as .bool .i, .as (.sl I) (.o .i), .drop, .drop, .drop, .drop, .drop, .drop, .drop, .drop, .drop, .drop, .drop, .drop, .drop, .drop, .drop, .drop, .keep, .as I .i, .as I .i]), (37, [.as (.opt (.pair (.sl (.sl .bool)) (.pair (.sl (.sl I)) (.pair (.sl (.sl I)) .unit)))) .i, .drop, .drop, .drop, .drop, .as (.sl .bool) (.o .i), .as .bool .i, .as (.sl I) (.o .i), .drop, .as I .i, .drop, .drop, .drop, .drop, .drop, .drop, .drop, .drop, .drop, .drop, .drop, .drop, .drop, .drop, .keep, .as I .i, .as I .i, .drop, .drop, .drop, .keep, .as I .i, .as I .i])]
noncomputable def zz59_R3 (N n : Nat) (K : Ex → St → Option (Y4 × Unit)) (l0 : Y1) (have5 : (List Bool)) (changed6 : Bool) : Option (Y4 × Unit) := iter ((A_zz59).shape 6) (run (A_zz59) N (codeAt Try.f85 [1, 1, 0, 1, 0, 0])) n ([.val (.opt (.pair (.sl (.sl .bool)) (.pair (.sl (.sl I)) (.pair (.sl (.sl I)) .unit)))) .i l0, .u, .u, .u, .u, .val (.sl .bool) (.o .i) have5, .val .bool .i changed6] ++ List.replicate 71 .u) K
noncomputable def zz59_R7 (N n : Nat) (K : Ex → St → Option (Y4 × Unit)) (l0 : Y1) (have5 : (List Bool)) (changed6 : Bool) (list7 : Y4) (t25 : Int) (t26 : Int) : Option (Y4 × Unit) := iter ((A_zz59).shape 14) (run (A_zz59) N (codeAt Try.f85 [1, 1, 0, 1, 0, 0, 1, 0, 1, 1, 1, 0, 0])) n ([.val (.opt (.pair (.sl (.sl .bool)) (.pair (.sl (.sl I)) (.pair (.sl (.sl I)) .unit)))) .i l0, .u, .u, .u, .u, .val (.sl .bool) (.o .i) have5, .val .bool .i changed6, .val (.sl I) (.o .i) list7, .u, .u, .u, .u, .u, .u, .u, .u, .u, .u, .u, .u, .u, .u, .u, .u, .ref 7 [] .val, .val I .i t25, .val I .i t26] ++ List.replicate 51 .u) K
noncomputable def zz59_R10 (N n : Nat) (K : Ex → St → Option (Y4 × Unit)) (l0 : Y1) (have5 : (List Bool)) (changed6 : Bool) (list7 : Y4) (x9 : Int) (t25 : Int) (t26 : Int) (t31 : Int) (t32 : Int) : Option (Y4 × Unit) := iter ((A_zz59).shape 20) (run (A_zz59) N (codeAt Try.f85 [1, 1, 0, 1, 0, 0, 1, 0, 1, 1, 1, 0, 0, 1, 1, 0, 0, 1, 1, 0, 0])) n ([.val (.opt (.pair (.sl (.sl .bool)) (.pair (.sl (.sl I)) (.pair (.sl (.sl I)) .unit)))) .i l0, .u, .u, .u, .u, .val (.sl .bool) (.o .i) have5, .val .bool .i changed6, .val (.sl I) (.o .i) list7, .u, .val I .i x9, .u, .u, .u, .u, .u, .u, .u, .u, .u, .u, .u, .u, .u, .u, .ref 7 [] .val, .val I .i t25, .val I .i t26, .u, .u, .u, .ref 7 [] .val, .val I .i t31, .val I .i t32] ++ List.replicate 45 .u) K
noncomputable def zz59_R13 (N n : Nat) (K : Ex → St → Option (Y4 × Unit)) (l0 : Y1) (have5 : (List Bool)) (changed6 : Bool) (list7 : Y4) (x9 : Int) (t25 : Int) (t26 : Int) (t31 : Int) (t32 : Int) (t56 : Y4) (t57 : Int) (t58 : Int) : Option (Y4 × Unit) := iter ((A_zz59).shape 26) (run (A_zz59) N (codeAt Try.f85 [1, 1, 0, 1, 0, 0, 1, 0, 1, 1, 1, 0, 0, 1, 1, 0, 0, 1, 1, 0, 0, 1, 1, 0, 0, 1, 1, 0, 0])) n ([.val (.opt (.pair (.sl (.sl .bool)) (.pair (.sl (.sl I)) (.pair (.sl (.sl I)) .unit)))) .i l0, .u, .u, .u, .u, .val (.sl .bool) (.o .i) have5, .val .bool .i changed6, .val (.sl I) (.o .i) list7, .u, .val I .i x9, .u, .u, .u, .u, .u, .u, .u, .u, .u, .u, .u, .u, .u, .u, .ref 7 [] .val, .val I .i t25, .val I .i t26, .u, .u, .u, .ref 7 [] .val, .val I .i t31, .val I .i t32, .u, .u, .u, .u, .u, .u, .u, .u, .u, .u, .u, .u, .u, .u, .u, .u, .u, .u, .u, .u, .u, .u, .u, .val (.sl I) (.o .i) t56, .val I .i t57, .val I .i t58] ++ List.replicate 19 .u) K
noncomputable abbrev zz59_z : Ex → St → Option (Y4 × Unit) := finish (A_zz59) S_zz59 Try.f85.results.toList
noncomputable abbrev zz59_X3 (kX : St → Option (Y4 × Unit)) : (List Bool) → Option (Y4 × Unit) := fun (have5 : (List Bool)) => kX ([.u, .u, .u, .u, .u, .val (.sl .bool) (.o .i) have5] ++ List.replicate 72 .u)
noncomputable abbrev zz59_E3 (kX : St → Option (Y4 × Unit)) (kO : Nat → St → Option (Y4 × Unit)) : Ex → St → Option (Y4 × Unit) := exK zz59_z 0 ((A_zz59).shape 41) kX kO
noncomputable abbrev zz59_X7 (kX : St → Option (Y4 × Unit)) : Y1 → (List Bool) → Bool → Option (Y4 × Unit) := fun (l0 : Y1) (have5 : (List Bool)) (changed6 : Bool) => kX ([.val (.opt (.pair (.sl (.sl .bool)) (.pair (.sl (.sl I)) (.pair (.sl (.sl I)) .unit)))) .i l0, .u, .u, .u, .u, .val (.sl .bool) (.o .i) have5, .val .bool .i changed6] ++ List.replicate 71 .u)
noncomputable abbrev zz59_E7 (kX : St → Option (Y4 × Unit)) (kO : Nat → St → Option (Y4 × Unit)) : Ex → St → Option (Y4 × Unit) := exK zz59_z 2 ((A_zz59).shape 6) kX kO
noncomputable abbrev zz59_X10 (kX : St → Option (Y4 × Unit)) : Y1 → (List Bool) → Bool → Y4 → Int → Int → Option (Y4 × Unit) := fun (l0 : Y1) (have5 : (List Bool)) (changed6 : Bool) (list7 : Y4) (t25 : Int) (t26 : Int) => kX ([.val (.opt (.pair (.sl (.sl .bool)) (.pair (.sl (.sl I)) (.pair (.sl (.sl I)) .unit)))) .i l0, .u, .u, .u, .u, .val (.sl .bool) (.o .i) have5, .val .bool .i changed6, .val (.sl I) (.o .i) list7, .u, .u, .u, .u, .u, .u, .u, .u, .u, .u, .u, .u, .u, .u, .u, .u, .ref 7 [] .val, .val I .i t25, .val I .i t26] ++ List.replicate 51 .u)
noncomputable abbrev zz59_E10 (kX : St → Option (Y4 × Unit)) (kO : Nat → St → Option (Y4 × Unit)) : Ex → St → Option (Y4 × Unit) := exK zz59_z 4 ((A_zz59).shape 39) kX kO
noncomputable abbrev zz59_X13 (kX : St → Option (Y4 × Unit)) : Y1 → (List Bool) → Bool → Y4 → Int → Int → Int → Int → Int → Option (Y4 × Unit) := fun (l0 : Y1) (have5 : (List Bool)) (changed6 : Bool) (list7 : Y4) (x9 : Int) (t25 : Int) (t26 : Int) (t31 : Int) (t32 : Int) => kX ([.val (.opt (.pair (.sl (.sl .bool)) (.pair (.sl (.sl I)) (.pair (.sl (.sl I)) .unit)))) .i l0, .u, .u, .u, .u, .val (.sl .bool) (.o .i) have5, .val .bool .i changed6, .val (.sl I) (.o .i) list7, .u, .val I .i x9, .u, .u, .u, .u, .u, .u, .u, .u, .u, .u, .u, .u, .u, .u, .ref 7 [] .val, .val I .i t25, .val I .i t26, .u, .u, .u, .ref 7 [] .val, .val I .i t31, .val I .i t32] ++ List.replicate 45 .u)
noncomputable abbrev zz59_E13 (kX : St → Option (Y4 × Unit)) (kO : Nat → St → Option (Y4 × Unit)) : Ex → St → Option (Y4 × Unit) := exK zz59_z 6 ((A_zz59).shape 37) kX kO
theorem zz59_step13 (N : Nat) (m : Nat) (kX : St → Option (Y4 × Unit)) (kO : Nat → St → Option (Y4 × Unit)) (l0 : Y1) (have5 : (List Bool)) (changed6 : Bool) (list7 : Y4) (x9 : Int) (t25 : Int) (t26 : Int) (t31 : Int) (t32 : Int) (t56 : Y4) (t57 : Int) (t58 : Int) : zz59_R13 N (m + 1) (zz59_E13 kX kO) l0 have5 changed6 list7 x9 t25 t26 t31 t32 t56 t57 t58 = zz59_b13 (zz59_R13 N m (zz59_E13 kX kO)) (zz59_X13 kX) l0 have5 changed6 list7 x9 t25 t26 t31 t32 t56 t57 t58 := by kernel_rfl
theorem zz59_iter13 (N : Nat) (kX : St → Option (Y4 × Unit)) (kO : Nat → St → Option (Y4 × Unit)) : ∀ (n : Nat) (l0 : Y1) (have5 : (List Bool)) (changed6 : Bool) (list7 : Y4) (x9 : Int) (t25 : Int) (t26 : Int) (t31 : Int) (t32 : Int) (t56 : Y4) (t57 : Int) (t58 : Int), zz59_R13 N n (zz59_E13 kX kO) l0 have5 changed6 list7 x9 t25 t26 t31 t32 t56 t57 t58 = zz59_l13 N (zz59_X13 kX) n l0 have5 changed6 list7 x9 t25 t26 t31 t32 t56 t57 t58
  | 0, _, _, _, _, _, _, _, _, _, _, _, _ => rfl
  | m + 1, l0, have5, changed6, list7, x9, t25, t26, t31, t32, t56, t57, t58 => by
    have hrec : zz59_R13 N m (zz59_E13 kX kO) = (zz59_l13 N (zz59_X13 kX) m) := (funext fun l0 => (funext fun have5 => (funext fun changed6 => (funext fun list7 => (funext fun x9 => (funext fun t25 => (funext fun t26 => (funext fun t31 => (funext fun t32 => (funext fun t56 => (funext fun t57 => (funext fun t58 => zz59_iter13 N kX kO m l0 have5 changed6 list7 x9 t25 t26 t31 t32 t56 t57 t58))))))))))))
    refine (zz59_step13 N m kX kO l0 have5 changed6 list7 x9 t25 t26 t31 t32 t56 t57 t58).trans ?_
    rw [hrec]
    rfl
noncomputable abbrev zz59_K13 (N : Nat) (m : Nat) (kX : St → Option (Y4 × Unit)) (kO : Nat → St → Option (Y4 × Unit)) : Ex → St → Option (Y4 × Unit) := (blockK 6 (blockK 5 (seqK ((A_zz59).shape 37) (run (A_zz59) N (codeAt Try.f85 [1, 1, 0, 1, 0, 0, 1, 0, 1, 1, 1, 0, 0, 1, 1, 0, 0, 1, 1, 0, 0, 1, 1, 1])) (iterK ((A_zz59).shape 20) (run (A_zz59) N (codeAt Try.f85 [1, 1, 0, 1, 0, 0, 1, 0, 1, 1, 1, 0, 0, 1, 1, 0, 0, 1, 1, 0, 0])) m (zz59_E10 kX kO)))))
noncomputable abbrev zz59_k13 (N : Nat) (m : Nat) (kX : St → Option (Y4 × Unit)) (kO : Nat → St → Option (Y4 × Unit)) : St → Option (Y4 × Unit) := fun st' => run (A_zz59) N (codeAt Try.f85 [1, 1, 0, 1, 0, 0, 1, 0, 1, 1, 1, 0, 0, 1, 1, 0, 0, 1, 1, 0, 0, 1, 1, 1]) st' (iterK ((A_zz59).shape 20) (run (A_zz59) N (codeAt Try.f85 [1, 1, 0, 1, 0, 0, 1, 0, 1, 1, 1, 0, 0, 1, 1, 0, 0, 1, 1, 0, 0])) m (zz59_E10 kX kO))
theorem zz59_after13 (N : Nat) (m : Nat) (kX : St → Option (Y4 × Unit)) (kO : Nat → St → Option (Y4 × Unit)) (l0 : Y1) (have5 : (List Bool)) (changed6 : Bool) (list7 : Y4) (x9 : Int) (t25 : Int) (t26 : Int) (t31 : Int) (t32 : Int) : zz59_X13 (zz59_k13 N m kX kO) l0 have5 changed6 list7 x9 t25 t26 t31 t32 = zz59_a13 (zz59_R10 N m (zz59_E10 kX kO)) l0 have5 changed6 list7 x9 t25 t26 t31 t32 := by kernel_rfl
theorem zz59_in13 (N : Nat) (m : Nat) (kX : St → Option (Y4 × Unit)) (kO : Nat → St → Option (Y4 × Unit)) (recF : Y1 → (List Bool) → Bool → Y4 → Int → Int → Int → Int → Int → Option (Y4 × Unit)) (hrec : zz59_R10 N m (zz59_E10 kX kO) = recF) (l0 : Y1) (have5 : (List Bool)) (changed6 : Bool) (list7 : Y4) (x9 : Int) (t25 : Int) (t26 : Int) (t31 : Int) (t32 : Int) (t56 : Y4) (t57 : Int) (t58 : Int) : zz59_R13 N N (zz59_K13 N m kX kO) l0 have5 changed6 list7 x9 t25 t26 t31 t32 t56 t57 t58 = zz59_F13 N recF (zz59_X10 kX) l0 have5 changed6 list7 x9 t25 t26 t31 t32 t56 t57 t58 :=
  have h : zz59_X13 (zz59_k13 N m kX kO) = (zz59_a13 recF) := (funext fun l0 => (funext fun have5 => (funext fun changed6 => (funext fun list7 => (funext fun x9 => (funext fun t25 => (funext fun t26 => (funext fun t31 => (funext fun t32 => (zz59_after13 N m kX kO l0 have5 changed6 list7 x9 t25 t26 t31 t32).trans (by rw [hrec]))))))))))
  ((iter_ex (fun st => by kernel_rfl) (fun st => by kernel_rfl)).trans (zz59_iter13 N (zz59_k13 N m kX kO) (fun j st => (zz59_K13 N m kX kO) (.exit j) st) N l0 have5 changed6 list7 x9 t25 t26 t31 t32 t56 t57 t58)).trans (congrArg (fun k => zz59_l13 N k N l0 have5 changed6 list7 x9 t25 t26 t31 t32 t56 t57 t58) h)
theorem zz59_step10 (N : Nat) (m : Nat) (kX : St → Option (Y4 × Unit)) (kO : Nat → St → Option (Y4 × Unit)) (l0 : Y1) (have5 : (List Bool)) (changed6 : Bool) (list7 : Y4) (x9 : Int) (t25 : Int) (t26 : Int) (t31 : Int) (t32 : Int) : zz59_R10 N (m + 1) (zz59_E10 kX kO) l0 have5 changed6 list7 x9 t25 t26 t31 t32 = zz59_b10 (zz59_R13 N N (zz59_K13 N m kX kO)) (zz59_X10 kX) l0 have5 changed6 list7 x9 t25 t26 t31 t32 := by kernel_rfl
theorem zz59_iter10 (N : Nat) (kX : St → Option (Y4 × Unit)) (kO : Nat → St → Option (Y4 × Unit)) : ∀ (n : Nat) (l0 : Y1) (have5 : (List Bool)) (changed6 : Bool) (list7 : Y4) (x9 : Int) (t25 : Int) (t26 : Int) (t31 : Int) (t32 : Int), zz59_R10 N n (zz59_E10 kX kO) l0 have5 changed6 list7 x9 t25 t26 t31 t32 = zz59_l10 N (zz59_X10 kX) n l0 have5 changed6 list7 x9 t25 t26 t31 t32
  | 0, _, _, _, _, _, _, _, _, _ => rfl
  | m + 1, l0, have5, changed6, list7, x9, t25, t26, t31, t32 => by
    have hrec : zz59_R10 N m (zz59_E10 kX kO) = (zz59_l10 N (zz59_X10 kX) m) := (funext fun l0 => (funext fun have5 => (funext fun changed6 => (funext fun list7 => (funext fun x9 => (funext fun t25 => (funext fun t26 => (funext fun t31 => (funext fun t32 => zz59_iter10 N kX kO m l0 have5 changed6 list7 x9 t25 t26 t31 t32)))))))))
    refine (zz59_step10 N m kX kO l0 have5 changed6 list7 x9 t25 t26 t31 t32).trans ?_
    rw [(funext fun l0 => (funext fun have5 => (funext fun changed6 => (funext fun list7 => (funext fun x9 => (funext fun t25 => (funext fun t26 => (funext fun t31 => (funext fun t32 => (funext fun t56 => (funext fun t57 => (funext fun t58 => zz59_in13 N m kX kO (zz59_l10 N (zz59_X10 kX) m) hrec l0 have5 changed6 list7 x9 t25 t26 t31 t32 t56 t57 t58))))))))))))]
    rfl
noncomputable abbrev zz59_K10 (N : Nat) (m : Nat) (kX : St → Option (Y4 × Unit)) (kO : Nat → St → Option (Y4 × Unit)) : Ex → St → Option (Y4 × Unit) := (blockK 4 (blockK 3 (seqK ((A_zz59).shape 39) (run (A_zz59) N (codeAt Try.f85 [1, 1, 0, 1, 0, 0, 1, 0, 1, 1, 1, 0, 0, 1, 1, 1])) (iterK ((A_zz59).shape 14) (run (A_zz59) N (codeAt Try.f85 [1, 1, 0, 1, 0, 0, 1, 0, 1, 1, 1, 0, 0])) m (zz59_E7 kX kO)))))
noncomputable abbrev zz59_k10 (N : Nat) (m : Nat) (kX : St → Option (Y4 × Unit)) (kO : Nat → St → Option (Y4 × Unit)) : St → Option (Y4 × Unit) := fun st' => run (A_zz59) N (codeAt Try.f85 [1, 1, 0, 1, 0, 0, 1, 0, 1, 1, 1, 0, 0, 1, 1, 1]) st' (iterK ((A_zz59).shape 14) (run (A_zz59) N (codeAt Try.f85 [1, 1, 0, 1, 0, 0, 1, 0, 1, 1, 1, 0, 0])) m (zz59_E7 kX kO))
theorem zz59_after10 (N : Nat) (m : Nat) (kX : St → Option (Y4 × Unit)) (kO : Nat → St → Option (Y4 × Unit)) (l0 : Y1) (have5 : (List Bool)) (changed6 : Bool) (list7 : Y4) (t25 : Int) (t26 : Int) : zz59_X10 (zz59_k10 N m kX kO) l0 have5 changed6 list7 t25 t26 = zz59_a10 (zz59_R7 N m (zz59_E7 kX kO)) l0 have5 changed6 list7 t25 t26 := by kernel_rfl
theorem zz59_in10 (N : Nat) (m : Nat) (kX : St → Option (Y4 × Unit)) (kO : Nat → St → Option (Y4 × Unit)) (recF : Y1 → (List Bool) → Bool → Y4 → Int → Int → Option (Y4 × Unit)) (hrec : zz59_R7 N m (zz59_E7 kX kO) = recF) (l0 : Y1) (have5 : (List Bool)) (changed6 : Bool) (list7 : Y4) (x9 : Int) (t25 : Int) (t26 : Int) (t31 : Int) (t32 : Int) : zz59_R10 N N (zz59_K10 N m kX kO) l0 have5 changed6 list7 x9 t25 t26 t31 t32 = zz59_F10 N recF (zz59_X7 kX) l0 have5 changed6 list7 x9 t25 t26 t31 t32 :=
  have h : zz59_X10 (zz59_k10 N m kX kO) = (zz59_a10 recF) := (funext fun l0 => (funext fun have5 => (funext fun changed6 => (funext fun list7 => (funext fun t25 => (funext fun t26 => (zz59_after10 N m kX kO l0 have5 changed6 list7 t25 t26).trans (by rw [hrec])))))))
  ((iter_ex (fun st => by kernel_rfl) (fun st => by kernel_rfl)).trans (zz59_iter10 N (zz59_k10 N m kX kO) (fun j st => (zz59_K10 N m kX kO) (.exit j) st) N l0 have5 changed6 list7 x9 t25 t26 t31 t32)).trans (congrArg (fun k => zz59_l10 N k N l0 have5 changed6 list7 x9 t25 t26 t31 t32) h)
theorem zz59_step7 (N : Nat) (m : Nat) (kX : St → Option (Y4 × Unit)) (kO : Nat → St → Option (Y4 × Unit)) (l0 : Y1) (have5 : (List Bool)) (changed6 : Bool) (list7 : Y4) (t25 : Int) (t26 : Int) : zz59_R7 N (m + 1) (zz59_E7 kX kO) l0 have5 changed6 list7 t25 t26 = zz59_b7 (zz59_R10 N N (zz59_K10 N m kX kO)) (zz59_X7 kX) l0 have5 changed6 list7 t25 t26 := by kernel_rfl
theorem zz59_iter7 (N : Nat) (kX : St → Option (Y4 × Unit)) (kO : Nat → St → Option (Y4 × Unit)) : ∀ (n : Nat) (l0 : Y1) (have5 : (List Bool)) (changed6 : Bool) (list7 : Y4) (t25 : Int) (t26 : Int), zz59_R7 N n (zz59_E7 kX kO) l0 have5 changed6 list7 t25 t26 = zz59_l7 N (zz59_X7 kX) n l0 have5 changed6 list7 t25 t26
  | 0, _, _, _, _, _, _ => rfl
  | m + 1, l0, have5, changed6, list7, t25, t26 => by
    have hrec : zz59_R7 N m (zz59_E7 kX kO) = (zz59_l7 N (zz59_X7 kX) m) := (funext fun l0 => (funext fun have5 => (funext fun changed6 => (funext fun list7 => (funext fun t25 => (funext fun t26 => zz59_iter7 N kX kO m l0 have5 changed6 list7 t25 t26))))))
    refine (zz59_step7 N m kX kO l0 have5 changed6 list7 t25 t26).trans ?_
    rw [(funext fun l0 => (funext fun have5 => (funext fun changed6 => (funext fun list7 => (funext fun x9 => (funext fun t25 => (funext fun t26 => (funext fun t31 => (funext fun t32 => zz59_in10 N m kX kO (zz59_l7 N (zz59_X7 kX) m) hrec l0 have5 changed6 list7 x9 t25 t26 t31 t32)))))))))]
    rfl
noncomputable abbrev zz59_K7 (N : Nat) (m : Nat) (kX : St → Option (Y4 × Unit)) (kO : Nat → St → Option (Y4 × Unit)) : Ex → St → Option (Y4 × Unit) := (blockK 2 (blockK 1 (iterK ((A_zz59).shape 6) (run (A_zz59) N (codeAt Try.f85 [1, 1, 0, 1, 0, 0])) m (zz59_E3 kX kO))))
noncomputable abbrev zz59_k7 (N : Nat) (m : Nat) (kX : St → Option (Y4 × Unit)) (kO : Nat → St → Option (Y4 × Unit)) : St → Option (Y4 × Unit) := fun st' => iter ((A_zz59).shape 6) (run (A_zz59) N (codeAt Try.f85 [1, 1, 0, 1, 0, 0])) m st' (zz59_E3 kX kO)
theorem zz59_after7 (N : Nat) (m : Nat) (kX : St → Option (Y4 × Unit)) (kO : Nat → St → Option (Y4 × Unit)) (l0 : Y1) (have5 : (List Bool)) (changed6 : Bool) : zz59_X7 (zz59_k7 N m kX kO) l0 have5 changed6 = zz59_a7 (zz59_R3 N m (zz59_E3 kX kO)) l0 have5 changed6 := by kernel_rfl
theorem zz59_in7 (N : Nat) (m : Nat) (kX : St → Option (Y4 × Unit)) (kO : Nat → St → Option (Y4 × Unit)) (recF : Y1 → (List Bool) → Bool → Option (Y4 × Unit)) (hrec : zz59_R3 N m (zz59_E3 kX kO) = recF) (l0 : Y1) (have5 : (List Bool)) (changed6 : Bool) (list7 : Y4) (t25 : Int) (t26 : Int) : zz59_R7 N N (zz59_K7 N m kX kO) l0 have5 changed6 list7 t25 t26 = zz59_F7 N recF (zz59_X3 kX) l0 have5 changed6 list7 t25 t26 :=
  have h : zz59_X7 (zz59_k7 N m kX kO) = (zz59_a7 recF) := (funext fun l0 => (funext fun have5 => (funext fun changed6 => (zz59_after7 N m kX kO l0 have5 changed6).trans (by rw [hrec]))))
  ((iter_ex (fun st => by kernel_rfl) (fun st => by kernel_rfl)).trans (zz59_iter7 N (zz59_k7 N m kX kO) (fun j st => (zz59_K7 N m kX kO) (.exit j) st) N l0 have5 changed6 list7 t25 t26)).trans (congrArg (fun k => zz59_l7 N k N l0 have5 changed6 list7 t25 t26) h)
theorem zz59_step3 (N : Nat) (m : Nat) (kX : St → Option (Y4 × Unit)) (kO : Nat → St → Option (Y4 × Unit)) (l0 : Y1) (have5 : (List Bool)) (changed6 : Bool) : zz59_R3 N (m + 1) (zz59_E3 kX kO) l0 have5 changed6 = zz59_b3 (zz59_R7 N N (zz59_K7 N m kX kO)) (zz59_X3 kX) l0 have5 changed6 := by kernel_rfl
theorem zz59_iter3 (N : Nat) (kX : St → Option (Y4 × Unit)) (kO : Nat → St → Option (Y4 × Unit)) : ∀ (n : Nat) (l0 : Y1) (have5 : (List Bool)) (changed6 : Bool), zz59_R3 N n (zz59_E3 kX kO) l0 have5 changed6 = zz59_l3 N (zz59_X3 kX) n l0 have5 changed6
  | 0, _, _, _ => rfl
  | m + 1, l0, have5, changed6 => by
    have hrec : zz59_R3 N m (zz59_E3 kX kO) = (zz59_l3 N (zz59_X3 kX) m) := (funext fun l0 => (funext fun have5 => (funext fun changed6 => zz59_iter3 N kX kO m l0 have5 changed6)))
    refine (zz59_step3 N m kX kO l0 have5 changed6).trans ?_
    rw [(funext fun l0 => (funext fun have5 => (funext fun changed6 => (funext fun list7 => (funext fun t25 => (funext fun t26 => zz59_in7 N m kX kO (zz59_l3 N (zz59_X3 kX) m) hrec l0 have5 changed6 list7 t25 t26))))))]
    rfl
noncomputable abbrev zz59_K3 (N : Nat) : Ex → St → Option (Y4 × Unit) := (blockK 0 (seqK ((A_zz59).shape 41) (run (A_zz59) N (codeAt Try.f85 [1, 1, 1])) zz59_z))
noncomputable abbrev zz59_k3 (N : Nat) : St → Option (Y4 × Unit) := fun st' => run (A_zz59) N (codeAt Try.f85 [1, 1, 1]) st' zz59_z
theorem zz59_after3 (N : Nat) (have5 : (List Bool)) : zz59_X3 (zz59_k3 N) have5 = zz59_a3 have5 := by kernel_rfl
theorem zz59_in3 (N : Nat) (l0 : Y1) (have5 : (List Bool)) (changed6 : Bool) : zz59_R3 N N (zz59_K3 N) l0 have5 changed6 = zz59_F3 N l0 have5 changed6 :=
  have h : zz59_X3 (zz59_k3 N) = (zz59_a3) := (funext fun have5 => zz59_after3 N have5)
  ((iter_ex (fun st => by kernel_rfl) (fun st => by kernel_rfl)).trans (zz59_iter3 N (zz59_k3 N) (fun j st => (zz59_K3 N) (.exit j) st) N l0 have5 changed6)).trans (congrArg (fun k => zz59_l3 N k N l0 have5 changed6) h)
theorem run0_zz59 (N : Nat) (x : (S_zz59).a.den) : runF (A_zz59) N Try.f85 S_zz59 x = (zz59_s (zz59_R3 N N (zz59_K3 N)) x.1 x.2.1) := by kernel_rfl
theorem run_zz59 (N : Nat) (x : (S_zz59).a.den) : runF (A_zz59) N Try.f85 S_zz59 x = zz59 N x.1 x.2.1 := by
  refine (run0_zz59 N x).trans ?_
  rw [(funext fun l0 => (funext fun have5 => (funext fun changed6 => zz59_in3 N l0 have5 changed6)))]
  rfl
theorem fn_zz59 : FnOk Try.prog 85 := ⟨_, Try.func85, by kernel_rfl, by kernel_rfl⟩
theorem good_zz59 : Gx.Good Try.prog 85 S_zz59 := good_of_run Try.func85 (of_decide_eq_true (by kernel_rfl)) fun x r h => ⟨A_zz59, big, mkCfg_ok tabOk, mkCfg_sigs (show SigsOk Try.prog [(109, S_zz57), (110, S_zz58)] from ⟨⟨fn_zz57, good_zz57⟩, ⟨fn_zz58, good_zz58⟩, trivial⟩), (run_zz59 big x).trans h⟩

/-! zz60 -/
def zz60_s (l_0 : Y1) (list_1 : Y4) : Option (Bool × Unit) :=
  cond (decide ((0 : Int) < (list_1.length : Int)))
  ((l_0).bind fun xq1 =>
  (zz56 xq1.1 list_1).bind fun rq2 =>
  cond rq2.1
  ((zz31 big list_1).bind fun rq3 =>
  cond rq3.1
  ((zz59 big l_0 list_1).bind fun rq4 =>
  some (decide ((rq4.1.length : Int) = (list_1.length : Int)), (())))
  (some (false, (()))))
  (some (false, (()))))
  (some (false, (())))
def zz60 (l_0 : Y1) (list_1 : Y4) : Option (Bool × Unit) := zz60_s l_0 list_1
def S_zz60 : Sig := { a := (.pair (.opt (.pair (.sl (.sl .bool)) (.pair (.sl (.sl I)) (.pair (.sl (.sl I)) .unit)))) (.pair (.sl I) .unit)), md := [0, 0], mf := [], m := .unit, r := .bool, rf := .i, f := fun x => zz60 x.1 x.2.1 }
def A_zz60 : Cfg := mkCfg tab [(83, S_zz56), (84, S_zz31), (85, S_zz59)] []
theorem run_zz60 (N : Nat) (x : (S_zz60).a.den) : runF (A_zz60) N Try.f43 S_zz60 x = zz60 x.1 x.2.1 := by kernel_rfl
theorem fn_zz60 : FnOk Try.prog 43 := ⟨_, Try.func43, by kernel_rfl, by kernel_rfl⟩
theorem good_zz60 : Gx.Good Try.prog 43 S_zz60 := good_of_run Try.func43 (of_decide_eq_true (by kernel_rfl)) fun x r h => ⟨A_zz60, big, mkCfg_ok tabOk, mkCfg_sigs (show SigsOk Try.prog [(83, S_zz56), (84, S_zz31), (85, S_zz59)] from ⟨⟨fn_zz56, good_zz56⟩, ⟨fn_zz31, good_zz31⟩, ⟨fn_zz59, good_zz59⟩, trivial⟩), (run_zz60 big x).trans h⟩

/-! zz61 -/
def zz61_b2 (rec : Int → Y4 → Int → Int → Option (Bool × Unit)) (k : Option (Bool × Unit)) (x1 : Int) (t7 : Y4) (t8 : Int) (t9 : Int) : Option (Bool × Unit) :=
  cond (decide (t9 < t8))
  ((atI t7 t9).bind fun xq1 =>
  cond (decide (x1 = xq1))
  (some (false, (())))
  (rec x1 t7 t8 (IntKind.i64.wrap (t9 + (1 : Int)))))
  (k)
def zz61_a2 : Option (Bool × Unit) :=
  some (true, (()))
def zz61_s (L2 : Int → Y4 → Int → Int → Option (Bool × Unit)) (list_0 : Y4) (x_1 : Int) : Option (Bool × Unit) :=
  L2 x_1 list_0 (list_0.length : Int) (0 : Int)
def zz61_l2 (N : Nat) (k : Option (Bool × Unit)) : Nat → Int → Y4 → Int → Int → Option (Bool × Unit)
  | 0, _, _, _, _ => none
  | m + 1, x1, t7, t8, t9 => zz61_b2 (zz61_l2 N k m) k x1 t7 t8 t9
def zz61_F2 (N : Nat) (x1 : Int) (t7 : Y4) (t8 : Int) (t9 : Int) : Option (Bool × Unit) := zz61_l2 N (zz61_a2) N x1 t7 t8 t9
def zz61 (N : Nat) (list_0 : Y4) (x_1 : Int) : Option (Bool × Unit) := zz61_s (zz61_F2 N) list_0 x_1
def S_zz61 : Sig := { a := (.pair (.sl I) (.pair I .unit)), md := [0, 0], mf := [], m := .unit, r := .bool, rf := .i, f := fun x => zz61 big x.1 x.2.1 }
def A_zz61 : Cfg := mkCfg tab [] [(4, [.drop, .as I .i, .drop, .drop, .drop, .drop, .drop, .as (.sl I) .i, .as I .i, .as I .i]), (15, [])]
noncomputable def zz61_R2 (N n : Nat) (K : Ex → St → Option (Bool × Unit)) (x1 : Int) (t7 : Y4) (t8 : Int) (t9 : Int) : Option (Bool × Unit) := iter ((A_zz61).shape 4) (run (A_zz61) N (codeAt Try.f44 [1, 0, 1, 0, 0])) n ([.u, .val I .i x1, .u, .u, .u, .u, .u, .val (.sl I) .i t7, .val I .i t8, .val I .i t9] ++ List.replicate 7 .u) K
noncomputable abbrev zz61_z : Ex → St → Option (Bool × Unit) := finish (A_zz61) S_zz61 Try.f44.results.toList
noncomputable abbrev zz61_X2 (kX : St → Option (Bool × Unit)) : Option (Bool × Unit) := kX ([] ++ List.replicate 17 .u)
noncomputable abbrev zz61_E2 (kX : St → Option (Bool × Unit)) (kO : Nat → St → Option (Bool × Unit)) : Ex → St → Option (Bool × Unit) := exK zz61_z 0 ((A_zz61).shape 15) kX kO
theorem zz61_step2 (N : Nat) (m : Nat) (kX : St → Option (Bool × Unit)) (kO : Nat → St → Option (Bool × Unit)) (x1 : Int) (t7 : Y4) (t8 : Int) (t9 : Int) : zz61_R2 N (m + 1) (zz61_E2 kX kO) x1 t7 t8 t9 = zz61_b2 (zz61_R2 N m (zz61_E2 kX kO)) (zz61_X2 kX) x1 t7 t8 t9 := by kernel_rfl
theorem zz61_iter2 (N : Nat) (kX : St → Option (Bool × Unit)) (kO : Nat → St → Option (Bool × Unit)) : ∀ (n : Nat) (x1 : Int) (t7 : Y4) (t8 : Int) (t9 : Int), zz61_R2 N n (zz61_E2 kX kO) x1 t7 t8 t9 = zz61_l2 N (zz61_X2 kX) n x1 t7 t8 t9
  | 0, _, _, _, _ => rfl
  | m + 1, x1, t7, t8, t9 => by
    have hrec : zz61_R2 N m (zz61_E2 kX kO) = (zz61_l2 N (zz61_X2 kX) m) := (funext fun x1 => (funext fun t7 => (funext fun t8 => (funext fun t9 => zz61_iter2 N kX kO m x1 t7 t8 t9))))
    refine (zz61_step2 N m kX kO x1 t7 t8 t9).trans ?_
    rw [hrec]
    rfl
noncomputable abbrev zz61_K2 (N : Nat) : Ex → St → Option (Bool × Unit) := (blockK 0 (seqK ((A_zz61).shape 15) (run (A_zz61) N (codeAt Try.f44 [1, 1])) zz61_z))
noncomputable abbrev zz61_k2 (N : Nat) : St → Option (Bool × Unit) := fun st' => run (A_zz61) N (codeAt Try.f44 [1, 1]) st' zz61_z
theorem zz61_after2 (N : Nat) : zz61_X2 (zz61_k2 N) = zz61_a2 := by kernel_rfl
theorem zz61_in2 (N : Nat) (x1 : Int) (t7 : Y4) (t8 : Int) (t9 : Int) : zz61_R2 N N (zz61_K2 N) x1 t7 t8 t9 = zz61_F2 N x1 t7 t8 t9 :=
  have h : zz61_X2 (zz61_k2 N) = (zz61_a2) := zz61_after2 N
  ((iter_ex (fun st => by kernel_rfl) (fun st => by kernel_rfl)).trans (zz61_iter2 N (zz61_k2 N) (fun j st => (zz61_K2 N) (.exit j) st) N x1 t7 t8 t9)).trans (congrArg (fun k => zz61_l2 N k N x1 t7 t8 t9) h)
theorem run0_zz61 (N : Nat) (x : (S_zz61).a.den) : runF (A_zz61) N Try.f44 S_zz61 x = (zz61_s (zz61_R2 N N (zz61_K2 N)) x.1 x.2.1) := by kernel_rfl
theorem run_zz61 (N : Nat) (x : (S_zz61).a.den) : runF (A_zz61) N Try.f44 S_zz61 x = zz61 N x.1 x.2.1 := by
  refine (run0_zz61 N x).trans ?_
  rw [(funext fun x1 => (funext fun t7 => (funext fun t8 => (funext fun t9 => zz61_in2 N x1 t7 t8 t9))))]
  rfl
theorem fn_zz61 : FnOk Try.prog 44 := ⟨_, Try.func44, by kernel_rfl, by kernel_rfl⟩
theorem good_zz61 : Gx.Good Try.prog 44 S_zz61 := good_of_run Try.func44 (of_decide_eq_true (by kernel_rfl)) fun x r h => ⟨A_zz61, big, mkCfg_ok tabOk, mkCfg_sigs (show SigsOk Try.prog [] from trivial), (run_zz61 big x).trans h⟩

/-! zz62 -/
def zz62_b3 (rec : Y4 → Y4 → Y4 → Int → Int → Option (Y4 × Unit)) (k : Y4 → Option (Y4 × Unit)) (g1 : Y4) (h5 : Y4) (t11 : Y4) (t12 : Int) (t13 : Int) : Option (Y4 × Unit) :=
  cond (decide (t13 < t12))
  ((atI t11 t13).bind fun xq3 =>
  (atI g1 xq3).bind fun xq4 =>
  (atI h5 t13).bind fun _ =>
  (h5[t13.toNat]?).bind fun xq5 =>
  rec g1 (h5.set t13.toNat xq4) t11 t12 (IntKind.i64.wrap (t13 + (1 : Int))))
  (k h5)
def zz62_a3 (h5 : Y4) : Option (Y4 × Unit) :=
  some (h5, (()))
def zz62_s (L3 : Y4 → Y4 → Y4 → Int → Int → Option (Y4 × Unit)) (f_0 : Y4) (g_1 : Y4) : Option (Y4 × Unit) :=
  (mkI (0 : Int) (f_0.length : Int)).bind fun xq1 => (mkI (0 : Int) (f_0.length : Int)).bind fun xq2 => cond (decide ((f_0.length : Int) ≤ (f_0.length : Int)))
  (L3 g_1 xq2 f_0 (f_0.length : Int) (0 : Int))
  none
def zz62_l3 (N : Nat) (k : Y4 → Option (Y4 × Unit)) : Nat → Y4 → Y4 → Y4 → Int → Int → Option (Y4 × Unit)
  | 0, _, _, _, _, _ => none
  | m + 1, g1, h5, t11, t12, t13 => zz62_b3 (zz62_l3 N k m) k g1 h5 t11 t12 t13
def zz62_F3 (N : Nat) (g1 : Y4) (h5 : Y4) (t11 : Y4) (t12 : Int) (t13 : Int) : Option (Y4 × Unit) := zz62_l3 N (zz62_a3) N g1 h5 t11 t12 t13
def zz62 (N : Nat) (f_0 : Y4) (g_1 : Y4) : Option (Y4 × Unit) := zz62_s (zz62_F3 N) f_0 g_1
def S_zz62 : Sig := { a := (.pair (.sl I) (.pair (.sl I) .unit)), md := [0, 0], mf := [], m := .unit, r := (.sl I), rf := (.o .i), f := fun x => zz62 big x.1 x.2.1 }
def A_zz62 : Cfg := mkCfg tab [] [(6, [.drop, .as (.sl I) .i, .drop, .drop, .drop, .as (.sl I) (.o .i), .drop, .drop, .drop, .drop, .drop, .as (.sl I) .i, .as I .i, .as I .i]), (15, [.drop, .drop, .drop, .drop, .drop, .as (.sl I) (.o .i)])]
noncomputable def zz62_R3 (N n : Nat) (K : Ex → St → Option (Y4 × Unit)) (g1 : Y4) (h5 : Y4) (t11 : Y4) (t12 : Int) (t13 : Int) : Option (Y4 × Unit) := iter ((A_zz62).shape 6) (run (A_zz62) N (codeAt Try.f47 [1, 1, 0, 1, 0, 0])) n ([.u, .val (.sl I) .i g1, .u, .u, .u, .val (.sl I) (.o .i) h5, .u, .u, .u, .u, .u, .val (.sl I) .i t11, .val I .i t12, .val I .i t13] ++ List.replicate 13 .u) K
noncomputable abbrev zz62_z : Ex → St → Option (Y4 × Unit) := finish (A_zz62) S_zz62 Try.f47.results.toList
noncomputable abbrev zz62_X3 (kX : St → Option (Y4 × Unit)) : Y4 → Option (Y4 × Unit) := fun (h5 : Y4) => kX ([.u, .u, .u, .u, .u, .val (.sl I) (.o .i) h5] ++ List.replicate 21 .u)
noncomputable abbrev zz62_E3 (kX : St → Option (Y4 × Unit)) (kO : Nat → St → Option (Y4 × Unit)) : Ex → St → Option (Y4 × Unit) := exK zz62_z 0 ((A_zz62).shape 15) kX kO
theorem zz62_step3 (N : Nat) (m : Nat) (kX : St → Option (Y4 × Unit)) (kO : Nat → St → Option (Y4 × Unit)) (g1 : Y4) (h5 : Y4) (t11 : Y4) (t12 : Int) (t13 : Int) : zz62_R3 N (m + 1) (zz62_E3 kX kO) g1 h5 t11 t12 t13 = zz62_b3 (zz62_R3 N m (zz62_E3 kX kO)) (zz62_X3 kX) g1 h5 t11 t12 t13 := by kernel_rfl
theorem zz62_iter3 (N : Nat) (kX : St → Option (Y4 × Unit)) (kO : Nat → St → Option (Y4 × Unit)) : ∀ (n : Nat) (g1 : Y4) (h5 : Y4) (t11 : Y4) (t12 : Int) (t13 : Int), zz62_R3 N n (zz62_E3 kX kO) g1 h5 t11 t12 t13 = zz62_l3 N (zz62_X3 kX) n g1 h5 t11 t12 t13
  | 0, _, _, _, _, _ => rfl
  | m + 1, g1, h5, t11, t12, t13 => by
    have hrec : zz62_R3 N m (zz62_E3 kX kO) = (zz62_l3 N (zz62_X3 kX) m) := (funext fun g1 => (funext fun h5 => (funext fun t11 => (funext fun t12 => (funext fun t13 => zz62_iter3 N kX kO m g1 h5 t11 t12 t13)))))
    refine (zz62_step3 N m kX kO g1 h5 t11 t12 t13).trans ?_
    rw [hrec]
    rfl
noncomputable abbrev zz62_K3 (N : Nat) : Ex → St → Option (Y4 × Unit) := (blockK 0 (seqK ((A_zz62).shape 15) (run (A_zz62) N (codeAt Try.f47 [1, 1, 1])) zz62_z))
noncomputable abbrev zz62_k3 (N : Nat) : St → Option (Y4 × Unit) := fun st' => run (A_zz62) N (codeAt Try.f47 [1, 1, 1]) st' zz62_z
theorem zz62_after3 (N : Nat) (h5 : Y4) : zz62_X3 (zz62_k3 N) h5 = zz62_a3 h5 := by kernel_rfl
theorem zz62_in3 (N : Nat) (g1 : Y4) (h5 : Y4) (t11 : Y4) (t12 : Int) (t13 : Int) : zz62_R3 N N (zz62_K3 N) g1 h5 t11 t12 t13 = zz62_F3 N g1 h5 t11 t12 t13 :=
  have h : zz62_X3 (zz62_k3 N) = (zz62_a3) := (funext fun h5 => zz62_after3 N h5)
  ((iter_ex (fun st => by kernel_rfl) (fun st => by kernel_rfl)).trans (zz62_iter3 N (zz62_k3 N) (fun j st => (zz62_K3 N) (.exit j) st) N g1 h5 t11 t12 t13)).trans (congrArg (fun k => zz62_l3 N k N g1 h5 t11 t12 t13) h)
theorem run0_zz62 (N : Nat) (x : (S_zz62).a.den) : runF (A_zz62) N Try.f47 S_zz62 x = (zz62_s (zz62_R3 N N (zz62_K3 N)) x.1 x.2.1) := by kernel_rfl
theorem run_zz62 (N : Nat) (x : (S_zz62).a.den) : runF (A_zz62) N Try.f47 S_zz62 x = zz62 N x.1 x.2.1 := by
  refine (run0_zz62 N x).trans ?_
  rw [(funext fun g1 => (funext fun h5 => (funext fun t11 => (funext fun t12 => (funext fun t13 => zz62_in3 N g1 h5 t11 t12 t13)))))]
  rfl
theorem fn_zz62 : FnOk Try.prog 47 := ⟨_, Try.func47, by kernel_rfl, by kernel_rfl⟩
theorem good_zz62 : Gx.Good Try.prog 47 S_zz62 := good_of_run Try.func47 (of_decide_eq_true (by kernel_rfl)) fun x r h => ⟨A_zz62, big, mkCfg_ok tabOk, mkCfg_sigs (show SigsOk Try.prog [] from trivial), (run_zz62 big x).trans h⟩

/-! zz63 -/
def zz63_b2 (rec : Y4 → Y4 → Int → Int → Option (Bool × Unit)) (k : Option (Bool × Unit)) (y1 : Y4) (t7 : Y4) (t8 : Int) (t9 : Int) : Option (Bool × Unit) :=
  cond (decide (t9 < t8))
  ((atI t7 t9).bind fun xq1 =>
  (zz61 big y1 xq1).bind fun rq2 =>
  cond rq2.1
  (some (false, (())))
  (rec y1 t7 t8 (IntKind.i64.wrap (t9 + (1 : Int)))))
  (k)
def zz63_a2 : Option (Bool × Unit) :=
  some (true, (()))
def zz63_s (L2 : Y4 → Y4 → Int → Int → Option (Bool × Unit)) (x_0 : Y4) (y_1 : Y4) : Option (Bool × Unit) :=
  L2 y_1 x_0 (x_0.length : Int) (0 : Int)
def zz63_l2 (N : Nat) (k : Option (Bool × Unit)) : Nat → Y4 → Y4 → Int → Int → Option (Bool × Unit)
  | 0, _, _, _, _ => none
  | m + 1, y1, t7, t8, t9 => zz63_b2 (zz63_l2 N k m) k y1 t7 t8 t9
def zz63_F2 (N : Nat) (y1 : Y4) (t7 : Y4) (t8 : Int) (t9 : Int) : Option (Bool × Unit) := zz63_l2 N (zz63_a2) N y1 t7 t8 t9
def zz63 (N : Nat) (x_0 : Y4) (y_1 : Y4) : Option (Bool × Unit) := zz63_s (zz63_F2 N) x_0 y_1
def S_zz63 : Sig := { a := (.pair (.sl I) (.pair (.sl I) .unit)), md := [0, 0], mf := [], m := .unit, r := .bool, rf := .i, f := fun x => zz63 big x.1 x.2.1 }
def A_zz63 : Cfg := mkCfg tab [(44, S_zz61)] [(4, [.drop, .as (.sl I) .i, .drop, .drop, .drop, .drop, .drop, .as (.sl I) .i, .as I .i, .as I .i]), (15, [])]
noncomputable def zz63_R2 (N n : Nat) (K : Ex → St → Option (Bool × Unit)) (y1 : Y4) (t7 : Y4) (t8 : Int) (t9 : Int) : Option (Bool × Unit) := iter ((A_zz63).shape 4) (run (A_zz63) N (codeAt Try.f46 [1, 0, 1, 0, 0])) n ([.u, .val (.sl I) .i y1, .u, .u, .u, .u, .u, .val (.sl I) .i t7, .val I .i t8, .val I .i t9] ++ List.replicate 7 .u) K
noncomputable abbrev zz63_z : Ex → St → Option (Bool × Unit) := finish (A_zz63) S_zz63 Try.f46.results.toList
noncomputable abbrev zz63_X2 (kX : St → Option (Bool × Unit)) : Option (Bool × Unit) := kX ([] ++ List.replicate 17 .u)
noncomputable abbrev zz63_E2 (kX : St → Option (Bool × Unit)) (kO : Nat → St → Option (Bool × Unit)) : Ex → St → Option (Bool × Unit) := exK zz63_z 0 ((A_zz63).shape 15) kX kO
theorem zz63_step2 (N : Nat) (m : Nat) (kX : St → Option (Bool × Unit)) (kO : Nat → St → Option (Bool × Unit)) (y1 : Y4) (t7 : Y4) (t8 : Int) (t9 : Int) : zz63_R2 N (m + 1) (zz63_E2 kX kO) y1 t7 t8 t9 = zz63_b2 (zz63_R2 N m (zz63_E2 kX kO)) (zz63_X2 kX) y1 t7 t8 t9 := by kernel_rfl
theorem zz63_iter2 (N : Nat) (kX : St → Option (Bool × Unit)) (kO : Nat → St → Option (Bool × Unit)) : ∀ (n : Nat) (y1 : Y4) (t7 : Y4) (t8 : Int) (t9 : Int), zz63_R2 N n (zz63_E2 kX kO) y1 t7 t8 t9 = zz63_l2 N (zz63_X2 kX) n y1 t7 t8 t9
  | 0, _, _, _, _ => rfl
  | m + 1, y1, t7, t8, t9 => by
    have hrec : zz63_R2 N m (zz63_E2 kX kO) = (zz63_l2 N (zz63_X2 kX) m) := (funext fun y1 => (funext fun t7 => (funext fun t8 => (funext fun t9 => zz63_iter2 N kX kO m y1 t7 t8 t9))))
    refine (zz63_step2 N m kX kO y1 t7 t8 t9).trans ?_
    rw [hrec]
    rfl
noncomputable abbrev zz63_K2 (N : Nat) : Ex → St → Option (Bool × Unit) := (blockK 0 (seqK ((A_zz63).shape 15) (run (A_zz63) N (codeAt Try.f46 [1, 1])) zz63_z))
noncomputable abbrev zz63_k2 (N : Nat) : St → Option (Bool × Unit) := fun st' => run (A_zz63) N (codeAt Try.f46 [1, 1]) st' zz63_z
theorem zz63_after2 (N : Nat) : zz63_X2 (zz63_k2 N) = zz63_a2 := by kernel_rfl
theorem zz63_in2 (N : Nat) (y1 : Y4) (t7 : Y4) (t8 : Int) (t9 : Int) : zz63_R2 N N (zz63_K2 N) y1 t7 t8 t9 = zz63_F2 N y1 t7 t8 t9 :=
  have h : zz63_X2 (zz63_k2 N) = (zz63_a2) := zz63_after2 N
  ((iter_ex (fun st => by kernel_rfl) (fun st => by kernel_rfl)).trans (zz63_iter2 N (zz63_k2 N) (fun j st => (zz63_K2 N) (.exit j) st) N y1 t7 t8 t9)).trans (congrArg (fun k => zz63_l2 N k N y1 t7 t8 t9) h)
theorem run0_zz63 (N : Nat) (x : (S_zz63).a.den) : runF (A_zz63) N Try.f46 S_zz63 x = (zz63_s (zz63_R2 N N (zz63_K2 N)) x.1 x.2.1) := by kernel_rfl
theorem run_zz63 (N : Nat) (x : (S_zz63).a.den) : runF (A_zz63) N Try.f46 S_zz63 x = zz63 N x.1 x.2.1 := by
  refine (run0_zz63 N x).trans ?_
  rw [(funext fun y1 => (funext fun t7 => (funext fun t8 => (funext fun t9 => zz63_in2 N y1 t7 t8 t9))))]
  rfl
theorem fn_zz63 : FnOk Try.prog 46 := ⟨_, Try.func46, by kernel_rfl, by kernel_rfl⟩
theorem good_zz63 : Gx.Good Try.prog 46 S_zz63 := good_of_run Try.func46 (of_decide_eq_true (by kernel_rfl)) fun x r h => ⟨A_zz63, big, mkCfg_ok tabOk, mkCfg_sigs (show SigsOk Try.prog [(44, S_zz61)] from ⟨⟨fn_zz61, good_zz61⟩, trivial⟩), (run_zz63 big x).trans h⟩
end Go.Proofs.Ytlndlclemhfekaa
