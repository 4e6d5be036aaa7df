import Derived.Test.YteamfbmkphjcjaaGBIp1
set_option maxRecDepth 100000
set_option linter.unusedVariables false
namespace Go.Proofs.Yteamfbmkphjcjaa
open Go Go.Gx Go.Proofs

/-! zz36 -/
def zz36_b3 (rec : (Y5 × (Int × (Int × Unit))) → Y4 → Int → Int → Option (Y4 × Unit)) (k : Y4 → Option (Y4 × Unit)) (so1 : (Y5 × (Int × (Int × Unit)))) (list5 : Y4) (t9 : Int) (t10 : Int) : Option (Y4 × Unit) :=
  cond (decide (t10 < t9))
  ((zz35 t10 so1.1 so1.2.1 so1.2.2.1).bind fun rq1 =>
  cond rq1.1
  ((appI list5 [t10]).bind fun xq2 =>
  rec so1 xq2 t9 (IntKind.i64.wrap (t10 + (1 : Int))))
  (rec so1 list5 t9 (IntKind.i64.wrap (t10 + (1 : Int)))))
  (k list5)
def zz36_a3 (list5 : Y4) : Option (Y4 × Unit) :=
  some (list5, (()))
def zz36_s (L3 : (Y5 × (Int × (Int × Unit))) → Y4 → Int → Int → Option (Y4 × Unit)) (o_0 : Y5) (so_1 : (Y5 × (Int × (Int × Unit)))) : Option (Y4 × Unit) :=
  L3 so_1 [] (o_0.length : Int) (0 : Int)
def zz36_l3 (N : Nat) (k : Y4 → Option (Y4 × Unit)) : Nat → (Y5 × (Int × (Int × Unit))) → Y4 → Int → Int → Option (Y4 × Unit)
  | 0, _, _, _, _ => none
  | m + 1, so1, list5, t9, t10 => zz36_b3 (zz36_l3 N k m) k so1 list5 t9 t10
def zz36_F3 (N : Nat) (so1 : (Y5 × (Int × (Int × Unit)))) (list5 : Y4) (t9 : Int) (t10 : Int) : Option (Y4 × Unit) := zz36_l3 N (zz36_a3) N so1 list5 t9 t10
def zz36 (N : Nat) (o_0 : Y5) (so_1 : (Y5 × (Int × (Int × Unit)))) : Option (Y4 × Unit) := zz36_s (zz36_F3 N) o_0 so_1
def S_zz36 : Sig := { a := (.pair (.sl (.sl .bool)) (.pair (.clo 67 0 (.pair (.ptr (.sl (.sl .bool))) (.pair (.ptr I) (.pair (.ptr I) .unit)))) .unit)), md := [0, 0], mf := [], m := .unit, r := (.sl I), rf := (.o .i), f := fun x => zz36 big x.1 x.2.1 }
def A_zz36 : Cfg := mkCfg tab [(67, S_zz35)] [(6, [.drop, .as (.clo 67 0 (.pair (.ptr (.sl (.sl .bool))) (.pair (.ptr I) (.pair (.ptr I) .unit)))) .i, .drop, .drop, .drop, .as (.sl I) (.o .i), .drop, .drop, .drop, .as I .i, .as I .i]), (17, [.drop, .drop, .drop, .drop, .drop, .as (.sl I) (.o .i)])]
noncomputable def zz36_R3 (N n : Nat) (K : Ex → St → Option (Y4 × Unit)) (so1 : (Y5 × (Int × (Int × Unit)))) (list5 : Y4) (t9 : Int) (t10 : Int) : Option (Y4 × Unit) := iter ((A_zz36).shape 6) (run (A_zz36) N (codeAt Try.f66 [1, 1, 0, 1, 0, 0])) n ([.u, .val (.clo 67 0 (.pair (.ptr (.sl (.sl .bool))) (.pair (.ptr I) (.pair (.ptr I) .unit)))) .i so1, .u, .u, .u, .val (.sl I) (.o .i) list5, .u, .u, .u, .val I .i t9, .val I .i t10] ++ List.replicate 11 .u) K
noncomputable abbrev zz36_z : Ex → St → Option (Y4 × Unit) := finish (A_zz36) S_zz36 Try.f66.results.toList
noncomputable abbrev zz36_X3 (kX : St → Option (Y4 × Unit)) : Y4 → Option (Y4 × Unit) := fun (list5 : Y4) => kX ([.u, .u, .u, .u, .u, .val (.sl I) (.o .i) list5] ++ List.replicate 16 .u)
noncomputable abbrev zz36_E3 (kX : St → Option (Y4 × Unit)) (kO : Nat → St → Option (Y4 × Unit)) : Ex → St → Option (Y4 × Unit) := exK zz36_z 0 ((A_zz36).shape 17) kX kO
theorem zz36_step3 (N : Nat) (m : Nat) (kX : St → Option (Y4 × Unit)) (kO : Nat → St → Option (Y4 × Unit)) (so1 : (Y5 × (Int × (Int × Unit)))) (list5 : Y4) (t9 : Int) (t10 : Int) : zz36_R3 N (m + 1) (zz36_E3 kX kO) so1 list5 t9 t10 = zz36_b3 (zz36_R3 N m (zz36_E3 kX kO)) (zz36_X3 kX) so1 list5 t9 t10 := by kernel_rfl
theorem zz36_iter3 (N : Nat) (kX : St → Option (Y4 × Unit)) (kO : Nat → St → Option (Y4 × Unit)) : ∀ (n : Nat) (so1 : (Y5 × (Int × (Int × Unit)))) (list5 : Y4) (t9 : Int) (t10 : Int), zz36_R3 N n (zz36_E3 kX kO) so1 list5 t9 t10 = zz36_l3 N (zz36_X3 kX) n so1 list5 t9 t10
  | 0, _, _, _, _ => rfl
  | m + 1, so1, list5, t9, t10 => by
    have hrec : zz36_R3 N m (zz36_E3 kX kO) = (zz36_l3 N (zz36_X3 kX) m) := (funext fun so1 => (funext fun list5 => (funext fun t9 => (funext fun t10 => zz36_iter3 N kX kO m so1 list5 t9 t10))))
    refine (zz36_step3 N m kX kO so1 list5 t9 t10).trans ?_
    rw [hrec]
    rfl
noncomputable abbrev zz36_K3 (N : Nat) : Ex → St → Option (Y4 × Unit) := (blockK 0 (seqK ((A_zz36).shape 17) (run (A_zz36) N (codeAt Try.f66 [1, 1, 1])) zz36_z))
noncomputable abbrev zz36_k3 (N : Nat) : St → Option (Y4 × Unit) := fun st' => run (A_zz36) N (codeAt Try.f66 [1, 1, 1]) st' zz36_z
theorem zz36_after3 (N : Nat) (list5 : Y4) : zz36_X3 (zz36_k3 N) list5 = zz36_a3 list5 := by kernel_rfl
theorem zz36_in3 (N : Nat) (so1 : (Y5 × (Int × (Int × Unit)))) (list5 : Y4) (t9 : Int) (t10 : Int) : zz36_R3 N N (zz36_K3 N) so1 list5 t9 t10 = zz36_F3 N so1 list5 t9 t10 :=
  have h : zz36_X3 (zz36_k3 N) = (zz36_a3) := (funext fun list5 => zz36_after3 N list5)
  ((iter_ex (fun st => by kernel_rfl) (fun st => by kernel_rfl)).trans (zz36_iter3 N (zz36_k3 N) (fun j st => (zz36_K3 N) (.exit j) st) N so1 list5 t9 t10)).trans (congrArg (fun k => zz36_l3 N k N so1 list5 t9 t10) h)
theorem run0_zz36 (N : Nat) (x : (S_zz36).a.den) : runF (A_zz36) N Try.f66 S_zz36 x = (zz36_s (zz36_R3 N N (zz36_K3 N)) x.1 x.2.1) := by kernel_rfl
theorem run_zz36 (N : Nat) (x : (S_zz36).a.den) : runF (A_zz36) N Try.f66 S_zz36 x = zz36 N x.1 x.2.1 := by
  refine (run0_zz36 N x).trans ?_
  rw [(funext fun so1 => (funext fun list5 => (funext fun t9 => (funext fun t10 => zz36_in3 N so1 list5 t9 t10))))]
  rfl
theorem fn_zz36 : FnOk Try.prog 66 := ⟨_, Try.func66, by kernel_rfl, by kernel_rfl⟩
theorem good_zz36 : Gx.Good Try.prog 66 S_zz36 := good_of_run Try.func66 (of_decide_eq_true (by kernel_rfl)) fun x r h => ⟨A_zz36, big, mkCfg_ok tabOk, mkCfg_sigs (show SigsOk Try.prog [(67, S_zz35)] from ⟨⟨fn_zz35, good_zz35⟩, trivial⟩), (run_zz36 big x).trans h⟩

/-! zz37 -/
def zz37_b7 (rec : Y5 → Y3 → Int → Y4 → Int → Int → Int → Int → Option ((Y3 × (Bool × Unit)) × Unit)) (k : Y5 → Y3 → Y4 → Int → Int → Option ((Y3 × (Bool × Unit)) × Unit)) (o1 : Y5) (table4 : Y3) (x5 : Int) (row6 : Y4) (t11 : Int) (t12 : Int) (t17 : Int) (t18 : Int) : Option ((Y3 × (Bool × Unit)) × Unit) :=
  cond (decide (t18 < t17))
  ((zz36 big o1 (o1, x5, t18, ())).bind fun rq1 =>
  (zz34 big o1 rq1.1).bind fun rq2 =>
  cond (decide (rq2.1 < (0 : Int)))
  (some (([], false, ()), (())))
  ((appI row6 [rq2.1]).bind fun xq3 =>
  rec o1 table4 x5 xq3 t11 t12 t17 (IntKind.i64.wrap (t18 + (1 : Int)))))
  (k o1 table4 row6 t11 t12)
def zz37_a7 (rec : Y5 → Y3 → Int → Int → Option ((Y3 × (Bool × Unit)) × Unit)) (o1 : Y5) (table4 : Y3) (row6 : Y4) (t11 : Int) (t12 : Int) : Option ((Y3 × (Bool × Unit)) × Unit) :=
  (appI table4 [row6]).bind fun xq4 =>
  rec o1 xq4 t11 (IntKind.i64.wrap (t12 + (1 : Int)))
def zz37_b3 (L7 : Y5 → Y3 → Int → Y4 → Int → Int → Int → Int → Option ((Y3 × (Bool × Unit)) × Unit)) (k : Y3 → Option ((Y3 × (Bool × Unit)) × Unit)) (o1 : Y5) (table4 : Y3) (t11 : Int) (t12 : Int) : Option ((Y3 × (Bool × Unit)) × Unit) :=
  cond (decide (t12 < t11))
  (L7 o1 table4 t12 [] t11 t12 (o1.length : Int) (0 : Int))
  (k table4)
def zz37_a3 (table4 : Y3) : Option ((Y3 × (Bool × Unit)) × Unit) :=
  some ((table4, true, ()), (()))
def zz37_s (L3 : Y5 → Y3 → Int → Int → Option ((Y3 × (Bool × Unit)) × Unit)) (o_0 : Y5) : Option ((Y3 × (Bool × Unit)) × Unit) :=
  L3 o_0 [] (o_0.length : Int) (0 : Int)
def zz37_l7 (N : Nat) (k : Y5 → Y3 → Y4 → Int → Int → Option ((Y3 × (Bool × Unit)) × Unit)) : Nat → Y5 → Y3 → Int → Y4 → Int → Int → Int → Int → Option ((Y3 × (Bool × Unit)) × Unit)
  | 0, _, _, _, _, _, _, _, _ => none
  | m + 1, o1, table4, x5, row6, t11, t12, t17, t18 => zz37_b7 (zz37_l7 N k m) k o1 table4 x5 row6 t11 t12 t17 t18
def zz37_F7 (N : Nat) (rec : Y5 → Y3 → Int → Int → Option ((Y3 × (Bool × Unit)) × Unit)) (k : Y3 → Option ((Y3 × (Bool × Unit)) × Unit)) (o1 : Y5) (table4 : Y3) (x5 : Int) (row6 : Y4) (t11 : Int) (t12 : Int) (t17 : Int) (t18 : Int) : Option ((Y3 × (Bool × Unit)) × Unit) := zz37_l7 N (zz37_a7 rec) N o1 table4 x5 row6 t11 t12 t17 t18
def zz37_l3 (N : Nat) (k : Y3 → Option ((Y3 × (Bool × Unit)) × Unit)) : Nat → Y5 → Y3 → Int → Int → Option ((Y3 × (Bool × Unit)) × Unit)
  | 0, _, _, _, _ => none
  | m + 1, o1, table4, t11, t12 => zz37_b3 (zz37_F7 N (zz37_l3 N k m) k) k o1 table4 t11 t12
def zz37_F3 (N : Nat) (o1 : Y5) (table4 : Y3) (t11 : Int) (t12 : Int) : Option ((Y3 × (Bool × Unit)) × Unit) := zz37_l3 N (zz37_a3) N o1 table4 t11 t12
def zz37 (N : Nat) (o_0 : Y5) : Option ((Y3 × (Bool × Unit)) × Unit) := zz37_s (zz37_F3 N) o_0
def S_zz37 : Sig := { a := (.pair (.sl (.sl .bool)) .unit), md := [0], mf := [], m := .unit, r := (.tup (.pair (.sl (.sl I)) (.pair .bool .unit))), rf := (.p (.o (.o .i)) .i), f := fun x => zz37 big x.1 }
def A_zz37 : Cfg := mkCfg tab [(66, S_zz36), (65, S_zz34)] [(6, [.drop, .as (.ptr (.sl (.sl .bool))) .i, .drop, .drop, .as (.sl (.sl I)) (.o (.o .i)), .drop, .drop, .drop, .drop, .drop, .drop, .as I .i, .as I .i]), (14, [.drop, .as (.ptr (.sl (.sl .bool))) .i, .drop, .drop, .as (.sl (.sl I)) (.o (.o .i)), .as (.ptr I) .i, .as (.sl I) (.o .i), .drop, .drop, .drop, .drop, .as I .i, .as I .i, .drop, .drop, .drop, .drop, .as I .i, .as I .i]), (33, [.drop, .drop, .drop, .drop, .as (.sl (.sl I)) (.o (.o .i))]), (19, [.drop, .as (.ptr (.sl (.sl .bool))) .i, .drop, .drop, .as (.sl (.sl I)) (.o (.o .i)), .as (.ptr I) .i, .as (.sl I) (.o .i), .as (.ptr I) .i, .drop, .drop, .drop, .as I .i, .as I .i, .drop, .drop, .drop, .drop, .as I .i, .as I .i]), (29, [.drop, .as (.ptr (.sl (.sl .bool))) .i, .drop, .drop, .as (.sl (.sl I)) (.o (.o .i)), .drop, .as (.sl I) (.o .i), .drop, .drop, .drop, .drop, .as I .i, .as I .i])]
noncomputable def zz37_R3 (N n : Nat) (K : Ex → St → Option ((Y3 × (Bool × Unit)) × Unit)) (o1 : Y5) (table4 : Y3) (t11 : Int) (t12 : Int) : Option ((Y3 × (Bool × Unit)) × Unit) := iter ((A_zz37).shape 6) (run (A_zz37) N (codeAt Try.f55 [1, 1, 0, 1, 0, 0])) n ([.u, .val (.ptr (.sl (.sl .bool))) .i o1, .u, .u, .val (.sl (.sl I)) (.o (.o .i)) table4, .u, .u, .u, .u, .u, .u, .val I .i t11, .val I .i t12] ++ List.replicate 26 .u) K
noncomputable def zz37_R7 (N n : Nat) (K : Ex → St → Option ((Y3 × (Bool × Unit)) × Unit)) (o1 : Y5) (table4 : Y3) (x5 : Int) (row6 : Y4) (t11 : Int) (t12 : Int) (t17 : Int) (t18 : Int) : Option ((Y3 × (Bool × Unit)) × Unit) := iter ((A_zz37).shape 14) (run (A_zz37) N (codeAt Try.f55 [1, 1, 0, 1, 0, 0, 1, 1, 0, 0, 1, 1, 0, 1, 0, 0])) n ([.u, .val (.ptr (.sl (.sl .bool))) .i o1, .u, .u, .val (.sl (.sl I)) (.o (.o .i)) table4, .val (.ptr I) .i x5, .val (.sl I) (.o .i) row6, .u, .u, .u, .u, .val I .i t11, .val I .i t12, .u, .u, .u, .u, .val I .i t17, .val I .i t18] ++ List.replicate 20 .u) K
noncomputable abbrev zz37_z : Ex → St → Option ((Y3 × (Bool × Unit)) × Unit) := finish (A_zz37) S_zz37 Try.f55.results.toList
noncomputable abbrev zz37_X3 (kX : St → Option ((Y3 × (Bool × Unit)) × Unit)) : Y3 → Option ((Y3 × (Bool × Unit)) × Unit) := fun (table4 : Y3) => kX ([.u, .u, .u, .u, .val (.sl (.sl I)) (.o (.o .i)) table4] ++ List.replicate 34 .u)
noncomputable abbrev zz37_E3 (kX : St → Option ((Y3 × (Bool × Unit)) × Unit)) (kO : Nat → St → Option ((Y3 × (Bool × Unit)) × Unit)) : Ex → St → Option ((Y3 × (Bool × Unit)) × Unit) := exK zz37_z 0 ((A_zz37).shape 33) kX kO
noncomputable abbrev zz37_X7 (kX : St → Option ((Y3 × (Bool × Unit)) × Unit)) : Y5 → Y3 → Y4 → Int → Int → Option ((Y3 × (Bool × Unit)) × Unit) := fun (o1 : Y5) (table4 : Y3) (row6 : Y4) (t11 : Int) (t12 : Int) => kX ([.u, .val (.ptr (.sl (.sl .bool))) .i o1, .u, .u, .val (.sl (.sl I)) (.o (.o .i)) table4, .u, .val (.sl I) (.o .i) row6, .u, .u, .u, .u, .val I .i t11, .val I .i t12] ++ List.replicate 26 .u)
noncomputable abbrev zz37_E7 (kX : St → Option ((Y3 × (Bool × Unit)) × Unit)) (kO : Nat → St → Option ((Y3 × (Bool × Unit)) × Unit)) : Ex → St → Option ((Y3 × (Bool × Unit)) × Unit) := exK zz37_z 2 ((A_zz37).shape 29) kX kO
theorem zz37_step7 (N : Nat) (m : Nat) (kX : St → Option ((Y3 × (Bool × Unit)) × Unit)) (kO : Nat → St → Option ((Y3 × (Bool × Unit)) × Unit)) (o1 : Y5) (table4 : Y3) (x5 : Int) (row6 : Y4) (t11 : Int) (t12 : Int) (t17 : Int) (t18 : Int) : zz37_R7 N (m + 1) (zz37_E7 kX kO) o1 table4 x5 row6 t11 t12 t17 t18 = zz37_b7 (zz37_R7 N m (zz37_E7 kX kO)) (zz37_X7 kX) o1 table4 x5 row6 t11 t12 t17 t18 := by kernel_rfl
theorem zz37_iter7 (N : Nat) (kX : St → Option ((Y3 × (Bool × Unit)) × Unit)) (kO : Nat → St → Option ((Y3 × (Bool × Unit)) × Unit)) : ∀ (n : Nat) (o1 : Y5) (table4 : Y3) (x5 : Int) (row6 : Y4) (t11 : Int) (t12 : Int) (t17 : Int) (t18 : Int), zz37_R7 N n (zz37_E7 kX kO) o1 table4 x5 row6 t11 t12 t17 t18 = zz37_l7 N (zz37_X7 kX) n o1 table4 x5 row6 t11 t12 t17 t18
  | 0, _, _, _, _, _, _, _, _ => rfl
  | m + 1, o1, table4, x5, row6, t11, t12, t17, t18 => by
    have hrec : zz37_R7 N m (zz37_E7 kX kO) = (zz37_l7 N (zz37_X7 kX) m) := (funext fun o1 => (funext fun table4 => (funext fun x5 => (funext fun row6 => (funext fun t11 => (funext fun t12 => (funext fun t17 => (funext fun t18 => zz37_iter7 N kX kO m o1 table4 x5 row6 t11 t12 t17 t18))))))))
    refine (zz37_step7 N m kX kO o1 table4 x5 row6 t11 t12 t17 t18).trans ?_
    rw [hrec]
    rfl
noncomputable abbrev zz37_K7 (N : Nat) (m : Nat) (kX : St → Option ((Y3 × (Bool × Unit)) × Unit)) (kO : Nat → St → Option ((Y3 × (Bool × Unit)) × Unit)) : Ex → St → Option ((Y3 × (Bool × Unit)) × Unit) := (blockK 2 (seqK ((A_zz37).shape 29) (run (A_zz37) N (codeAt Try.f55 [1, 1, 0, 1, 0, 0, 1, 1, 0, 0, 1, 1, 1])) (blockK 1 (seqK ((A_zz37).shape 31) (run (A_zz37) N (codeAt Try.f55 [1, 1, 0, 1, 0, 0, 1, 1, 1])) (iterK ((A_zz37).shape 6) (run (A_zz37) N (codeAt Try.f55 [1, 1, 0, 1, 0, 0])) m (zz37_E3 kX kO))))))
noncomputable abbrev zz37_k7 (N : Nat) (m : Nat) (kX : St → Option ((Y3 × (Bool × Unit)) × Unit)) (kO : Nat → St → Option ((Y3 × (Bool × Unit)) × Unit)) : St → Option ((Y3 × (Bool × Unit)) × Unit) := fun st' => run (A_zz37) N (codeAt Try.f55 [1, 1, 0, 1, 0, 0, 1, 1, 0, 0, 1, 1, 1]) st' (blockK 1 (seqK ((A_zz37).shape 31) (run (A_zz37) N (codeAt Try.f55 [1, 1, 0, 1, 0, 0, 1, 1, 1])) (iterK ((A_zz37).shape 6) (run (A_zz37) N (codeAt Try.f55 [1, 1, 0, 1, 0, 0])) m (zz37_E3 kX kO))))
theorem zz37_after7 (N : Nat) (m : Nat) (kX : St → Option ((Y3 × (Bool × Unit)) × Unit)) (kO : Nat → St → Option ((Y3 × (Bool × Unit)) × Unit)) (o1 : Y5) (table4 : Y3) (row6 : Y4) (t11 : Int) (t12 : Int) : zz37_X7 (zz37_k7 N m kX kO) o1 table4 row6 t11 t12 = zz37_a7 (zz37_R3 N m (zz37_E3 kX kO)) o1 table4 row6 t11 t12 := by kernel_rfl
theorem zz37_in7 (N : Nat) (m : Nat) (kX : St → Option ((Y3 × (Bool × Unit)) × Unit)) (kO : Nat → St → Option ((Y3 × (Bool × Unit)) × Unit)) (recF : Y5 → Y3 → Int → Int → Option ((Y3 × (Bool × Unit)) × Unit)) (hrec : zz37_R3 N m (zz37_E3 kX kO) = recF) (o1 : Y5) (table4 : Y3) (x5 : Int) (row6 : Y4) (t11 : Int) (t12 : Int) (t17 : Int) (t18 : Int) : zz37_R7 N N (zz37_K7 N m kX kO) o1 table4 x5 row6 t11 t12 t17 t18 = zz37_F7 N recF (zz37_X3 kX) o1 table4 x5 row6 t11 t12 t17 t18 :=
  have h : zz37_X7 (zz37_k7 N m kX kO) = (zz37_a7 recF) := (funext fun o1 => (funext fun table4 => (funext fun row6 => (funext fun t11 => (funext fun t12 => (zz37_after7 N m kX kO o1 table4 row6 t11 t12).trans (by rw [hrec]))))))
  ((iter_ex (fun st => by kernel_rfl) (fun st => by kernel_rfl)).trans (zz37_iter7 N (zz37_k7 N m kX kO) (fun j st => (zz37_K7 N m kX kO) (.exit j) st) N o1 table4 x5 row6 t11 t12 t17 t18)).trans (congrArg (fun k => zz37_l7 N k N o1 table4 x5 row6 t11 t12 t17 t18) h)
theorem zz37_step3 (N : Nat) (m : Nat) (kX : St → Option ((Y3 × (Bool × Unit)) × Unit)) (kO : Nat → St → Option ((Y3 × (Bool × Unit)) × Unit)) (o1 : Y5) (table4 : Y3) (t11 : Int) (t12 : Int) : zz37_R3 N (m + 1) (zz37_E3 kX kO) o1 table4 t11 t12 = zz37_b3 (zz37_R7 N N (zz37_K7 N m kX kO)) (zz37_X3 kX) o1 table4 t11 t12 := by kernel_rfl
theorem zz37_iter3 (N : Nat) (kX : St → Option ((Y3 × (Bool × Unit)) × Unit)) (kO : Nat → St → Option ((Y3 × (Bool × Unit)) × Unit)) : ∀ (n : Nat) (o1 : Y5) (table4 : Y3) (t11 : Int) (t12 : Int), zz37_R3 N n (zz37_E3 kX kO) o1 table4 t11 t12 = zz37_l3 N (zz37_X3 kX) n o1 table4 t11 t12
  | 0, _, _, _, _ => rfl
  | m + 1, o1, table4, t11, t12 => by
    have hrec : zz37_R3 N m (zz37_E3 kX kO) = (zz37_l3 N (zz37_X3 kX) m) := (funext fun o1 => (funext fun table4 => (funext fun t11 => (funext fun t12 => zz37_iter3 N kX kO m o1 table4 t11 t12))))
    refine (zz37_step3 N m kX kO o1 table4 t11 t12).trans ?_
    rw [(funext fun o1 => (funext fun table4 => (funext fun x5 => (funext fun row6 => (funext fun t11 => (funext fun t12 => (funext fun t17 => (funext fun t18 => zz37_in7 N m kX kO (zz37_l3 N (zz37_X3 kX) m) hrec o1 table4 x5 row6 t11 t12 t17 t18))))))))]
    rfl
noncomputable abbrev zz37_K3 (N : Nat) : Ex → St → Option ((Y3 × (Bool × Unit)) × Unit) := (blockK 0 (seqK ((A_zz37).shape 33) (run (A_zz37) N (codeAt Try.f55 [1, 1, 1])) zz37_z))
noncomputable abbrev zz37_k3 (N : Nat) : St → Option ((Y3 × (Bool × Unit)) × Unit) := fun st' => run (A_zz37) N (codeAt Try.f55 [1, 1, 1]) st' zz37_z
theorem zz37_after3 (N : Nat) (table4 : Y3) : zz37_X3 (zz37_k3 N) table4 = zz37_a3 table4 := by kernel_rfl
theorem zz37_in3 (N : Nat) (o1 : Y5) (table4 : Y3) (t11 : Int) (t12 : Int) : zz37_R3 N N (zz37_K3 N) o1 table4 t11 t12 = zz37_F3 N o1 table4 t11 t12 :=
  have h : zz37_X3 (zz37_k3 N) = (zz37_a3) := (funext fun table4 => zz37_after3 N table4)
  ((iter_ex (fun st => by kernel_rfl) (fun st => by kernel_rfl)).trans (zz37_iter3 N (zz37_k3 N) (fun j st => (zz37_K3 N) (.exit j) st) N o1 table4 t11 t12)).trans (congrArg (fun k => zz37_l3 N k N o1 table4 t11 t12) h)
theorem run0_zz37 (N : Nat) (x : (S_zz37).a.den) : runF (A_zz37) N Try.f55 S_zz37 x = (zz37_s (zz37_R3 N N (zz37_K3 N)) x.1) := by kernel_rfl
theorem run_zz37 (N : Nat) (x : (S_zz37).a.den) : runF (A_zz37) N Try.f55 S_zz37 x = zz37 N x.1 := by
  refine (run0_zz37 N x).trans ?_
  rw [(funext fun o1 => (funext fun table4 => (funext fun t11 => (funext fun t12 => zz37_in3 N o1 table4 t11 t12))))]
  rfl
theorem fn_zz37 : FnOk Try.prog 55 := ⟨_, Try.func55, by kernel_rfl, by kernel_rfl⟩
theorem good_zz37 : Gx.Good Try.prog 55 S_zz37 := good_of_run Try.func55 (of_decide_eq_true (by kernel_rfl)) fun x r h => ⟨A_zz37, big, mkCfg_ok tabOk, mkCfg_sigs (show SigsOk Try.prog [(66, S_zz36), (65, S_zz34)] from ⟨⟨fn_zz36, good_zz36⟩, ⟨fn_zz34, good_zz34⟩, trivial⟩), (run_zz37 big x).trans h⟩

/-! zz38 -/
def zz38_b6 (rec : Y5 → Y5 → Int → Int → Int → Int → Int → Option (Y5 × Unit)) (k : Y5 → Y5 → Int → Int → Option (Y5 × Unit)) (o0 : Y5) (d3 : Y5) (x4 : Int) (t10 : Int) (t11 : Int) (t15 : Int) (t16 : Int) : Option (Y5 × Unit) :=
  cond (decide (t16 < t15))
  ((atI d3 x4).bind fun _ =>
  (d3[x4.toNat]?).bind fun xq2 =>
  (atI o0 t16).bind fun xq3 =>
  (atI xq3 x4).bind fun xq4 =>
  (d3[x4.toNat]?).bind fun xq5 =>
  (atI xq5 t16).bind fun _ =>
  (d3[x4.toNat]?).bind fun xq6 =>
  (xq6[t16.toNat]?).bind fun xq7 =>
  rec o0 (d3.set x4.toNat (xq6.set t16.toNat xq4)) x4 t10 t11 t15 (IntKind.i64.wrap (t16 + (1 : Int))))
  (k o0 d3 t10 t11)
def zz38_a6 (rec : Y5 → Y5 → Int → Int → Option (Y5 × Unit)) (o0 : Y5) (d3 : Y5) (t10 : Int) (t11 : Int) : Option (Y5 × Unit) :=
  rec o0 d3 t10 (IntKind.i64.wrap (t11 + (1 : Int)))
def zz38_b3 (L6 : Y5 → Y5 → Int → Int → Int → Int → Int → Option (Y5 × Unit)) (k : Y5 → Option (Y5 × Unit)) (o0 : Y5) (d3 : Y5) (t10 : Int) (t11 : Int) : Option (Y5 × Unit) :=
  cond (decide (t11 < t10))
  (L6 o0 d3 t11 t10 t11 (o0.length : Int) (0 : Int))
  (k d3)
def zz38_a3 (d3 : Y5) : Option (Y5 × Unit) :=
  some (d3, (()))
def zz38_s (L3 : Y5 → Y5 → Int → Int → Option (Y5 × Unit)) (o_0 : Y5) : Option (Y5 × Unit) :=
  (zz29 big (o_0.length : Int)).bind fun rq1 =>
  L3 o_0 rq1.1 (o_0.length : Int) (0 : Int)
def zz38_l6 (N : Nat) (k : Y5 → Y5 → Int → Int → Option (Y5 × Unit)) : Nat → Y5 → Y5 → Int → Int → Int → Int → Int → Option (Y5 × Unit)
  | 0, _, _, _, _, _, _, _ => none
  | m + 1, o0, d3, x4, t10, t11, t15, t16 => zz38_b6 (zz38_l6 N k m) k o0 d3 x4 t10 t11 t15 t16
def zz38_F6 (N : Nat) (rec : Y5 → Y5 → Int → Int → Option (Y5 × Unit)) (k : Y5 → Option (Y5 × Unit)) (o0 : Y5) (d3 : Y5) (x4 : Int) (t10 : Int) (t11 : Int) (t15 : Int) (t16 : Int) : Option (Y5 × Unit) := zz38_l6 N (zz38_a6 rec) N o0 d3 x4 t10 t11 t15 t16
def zz38_l3 (N : Nat) (k : Y5 → Option (Y5 × Unit)) : Nat → Y5 → Y5 → Int → Int → Option (Y5 × Unit)
  | 0, _, _, _, _ => none
  | m + 1, o0, d3, t10, t11 => zz38_b3 (zz38_F6 N (zz38_l3 N k m) k) k o0 d3 t10 t11
def zz38_F3 (N : Nat) (o0 : Y5) (d3 : Y5) (t10 : Int) (t11 : Int) : Option (Y5 × Unit) := zz38_l3 N (zz38_a3) N o0 d3 t10 t11
def zz38 (N : Nat) (o_0 : Y5) : Option (Y5 × Unit) := zz38_s (zz38_F3 N) o_0
def S_zz38 : Sig := { a := (.pair (.sl (.sl .bool)) .unit), md := [0], mf := [], m := .unit, r := (.sl (.sl .bool)), rf := (.o (.o .i)), f := fun x => zz38 big x.1 }
def A_zz38 : Cfg := mkCfg tab [(61, S_zz29)] [(6, [.as (.sl (.sl .bool)) .i, .drop, .drop, .as (.sl (.sl .bool)) (.o (.o .i)), .drop, .drop, .drop, .drop, .drop, .drop, .as I .i, .as I .i]), (12, [.as (.sl (.sl .bool)) .i, .drop, .drop, .as (.sl (.sl .bool)) (.o (.o .i)), .as I .i, .drop, .drop, .drop, .drop, .drop, .as I .i, .as I .i, .drop, .drop, .drop, .as I .i, .as I .i]), (23, [.drop, .drop, .drop, .as (.sl (.sl .bool)) (.o (.o .i))]), (21, [.as (.sl (.sl .bool)) .i, .drop, .drop, .as (.sl (.sl .bool)) (.o (.o .i)), .drop, .drop, .drop, .drop, .drop, .drop, .as I .i, .as I .i])]
noncomputable def zz38_R3 (N n : Nat) (K : Ex → St → Option (Y5 × Unit)) (o0 : Y5) (d3 : Y5) (t10 : Int) (t11 : Int) : Option (Y5 × Unit) := iter ((A_zz38).shape 6) (run (A_zz38) N (codeAt Try.f56 [1, 1, 0, 1, 0, 0])) n ([.val (.sl (.sl .bool)) .i o0, .u, .u, .val (.sl (.sl .bool)) (.o (.o .i)) d3, .u, .u, .u, .u, .u, .u, .val I .i t10, .val I .i t11] ++ List.replicate 23 .u) K
noncomputable def zz38_R6 (N n : Nat) (K : Ex → St → Option (Y5 × Unit)) (o0 : Y5) (d3 : Y5) (x4 : Int) (t10 : Int) (t11 : Int) (t15 : Int) (t16 : Int) : Option (Y5 × Unit) := iter ((A_zz38).shape 12) (run (A_zz38) N (codeAt Try.f56 [1, 1, 0, 1, 0, 0, 1, 1, 0, 0, 1, 1, 0, 0])) n ([.val (.sl (.sl .bool)) .i o0, .u, .u, .val (.sl (.sl .bool)) (.o (.o .i)) d3, .val I .i x4, .u, .u, .u, .u, .u, .val I .i t10, .val I .i t11, .u, .u, .u, .val I .i t15, .val I .i t16] ++ List.replicate 18 .u) K
noncomputable abbrev zz38_z : Ex → St → Option (Y5 × Unit) := finish (A_zz38) S_zz38 Try.f56.results.toList
noncomputable abbrev zz38_X3 (kX : St → Option (Y5 × Unit)) : Y5 → Option (Y5 × Unit) := fun (d3 : Y5) => kX ([.u, .u, .u, .val (.sl (.sl .bool)) (.o (.o .i)) d3] ++ List.replicate 31 .u)
noncomputable abbrev zz38_E3 (kX : St → Option (Y5 × Unit)) (kO : Nat → St → Option (Y5 × Unit)) : Ex → St → Option (Y5 × Unit) := exK zz38_z 0 ((A_zz38).shape 23) kX kO
noncomputable abbrev zz38_X6 (kX : St → Option (Y5 × Unit)) : Y5 → Y5 → Int → Int → Option (Y5 × Unit) := fun (o0 : Y5) (d3 : Y5) (t10 : Int) (t11 : Int) => kX ([.val (.sl (.sl .bool)) .i o0, .u, .u, .val (.sl (.sl .bool)) (.o (.o .i)) d3, .u, .u, .u, .u, .u, .u, .val I .i t10, .val I .i t11] ++ List.replicate 23 .u)
noncomputable abbrev zz38_E6 (kX : St → Option (Y5 × Unit)) (kO : Nat → St → Option (Y5 × Unit)) : Ex → St → Option (Y5 × Unit) := exK zz38_z 2 ((A_zz38).shape 21) kX kO
theorem zz38_step6 (N : Nat) (m : Nat) (kX : St → Option (Y5 × Unit)) (kO : Nat → St → Option (Y5 × Unit)) (o0 : Y5) (d3 : Y5) (x4 : Int) (t10 : Int) (t11 : Int) (t15 : Int) (t16 : Int) : zz38_R6 N (m + 1) (zz38_E6 kX kO) o0 d3 x4 t10 t11 t15 t16 = zz38_b6 (zz38_R6 N m (zz38_E6 kX kO)) (zz38_X6 kX) o0 d3 x4 t10 t11 t15 t16 := by kernel_rfl
theorem zz38_iter6 (N : Nat) (kX : St → Option (Y5 × Unit)) (kO : Nat → St → Option (Y5 × Unit)) : ∀ (n : Nat) (o0 : Y5) (d3 : Y5) (x4 : Int) (t10 : Int) (t11 : Int) (t15 : Int) (t16 : Int), zz38_R6 N n (zz38_E6 kX kO) o0 d3 x4 t10 t11 t15 t16 = zz38_l6 N (zz38_X6 kX) n o0 d3 x4 t10 t11 t15 t16
  | 0, _, _, _, _, _, _, _ => rfl
  | m + 1, o0, d3, x4, t10, t11, t15, t16 => by
    have hrec : zz38_R6 N m (zz38_E6 kX kO) = (zz38_l6 N (zz38_X6 kX) m) := (funext fun o0 => (funext fun d3 => (funext fun x4 => (funext fun t10 => (funext fun t11 => (funext fun t15 => (funext fun t16 => zz38_iter6 N kX kO m o0 d3 x4 t10 t11 t15 t16)))))))
    refine (zz38_step6 N m kX kO o0 d3 x4 t10 t11 t15 t16).trans ?_
    rw [hrec]
    rfl
noncomputable abbrev zz38_K6 (N : Nat) (m : Nat) (kX : St → Option (Y5 × Unit)) (kO : Nat → St → Option (Y5 × Unit)) : Ex → St → Option (Y5 × Unit) := (blockK 2 (blockK 1 (seqK ((A_zz38).shape 21) (run (A_zz38) N (codeAt Try.f56 [1, 1, 0, 1, 0, 0, 1, 1, 1])) (iterK ((A_zz38).shape 6) (run (A_zz38) N (codeAt Try.f56 [1, 1, 0, 1, 0, 0])) m (zz38_E3 kX kO)))))
noncomputable abbrev zz38_k6 (N : Nat) (m : Nat) (kX : St → Option (Y5 × Unit)) (kO : Nat → St → Option (Y5 × Unit)) : St → Option (Y5 × Unit) := fun st' => run (A_zz38) N (codeAt Try.f56 [1, 1, 0, 1, 0, 0, 1, 1, 1]) st' (iterK ((A_zz38).shape 6) (run (A_zz38) N (codeAt Try.f56 [1, 1, 0, 1, 0, 0])) m (zz38_E3 kX kO))
theorem zz38_after6 (N : Nat) (m : Nat) (kX : St → Option (Y5 × Unit)) (kO : Nat → St → Option (Y5 × Unit)) (o0 : Y5) (d3 : Y5) (t10 : Int) (t11 : Int) : zz38_X6 (zz38_k6 N m kX kO) o0 d3 t10 t11 = zz38_a6 (zz38_R3 N m (zz38_E3 kX kO)) o0 d3 t10 t11 := by kernel_rfl
theorem zz38_in6 (N : Nat) (m : Nat) (kX : St → Option (Y5 × Unit)) (kO : Nat → St → Option (Y5 × Unit)) (recF : Y5 → Y5 → Int → Int → Option (Y5 × Unit)) (hrec : zz38_R3 N m (zz38_E3 kX kO) = recF) (o0 : Y5) (d3 : Y5) (x4 : Int) (t10 : Int) (t11 : Int) (t15 : Int) (t16 : Int) : zz38_R6 N N (zz38_K6 N m kX kO) o0 d3 x4 t10 t11 t15 t16 = zz38_F6 N recF (zz38_X3 kX) o0 d3 x4 t10 t11 t15 t16 :=
  have h : zz38_X6 (zz38_k6 N m kX kO) = (zz38_a6 recF) := (funext fun o0 => (funext fun d3 => (funext fun t10 => (funext fun t11 => (zz38_after6 N m kX kO o0 d3 t10 t11).trans (by rw [hrec])))))
  ((iter_ex (fun st => by kernel_rfl) (fun st => by kernel_rfl)).trans (zz38_iter6 N (zz38_k6 N m kX kO) (fun j st => (zz38_K6 N m kX kO) (.exit j) st) N o0 d3 x4 t10 t11 t15 t16)).trans (congrArg (fun k => zz38_l6 N k N o0 d3 x4 t10 t11 t15 t16) h)
theorem zz38_step3 (N : Nat) (m : Nat) (kX : St → Option (Y5 × Unit)) (kO : Nat → St → Option (Y5 × Unit)) (o0 : Y5) (d3 : Y5) (t10 : Int) (t11 : Int) : zz38_R3 N (m + 1) (zz38_E3 kX kO) o0 d3 t10 t11 = zz38_b3 (zz38_R6 N N (zz38_K6 N m kX kO)) (zz38_X3 kX) o0 d3 t10 t11 := by kernel_rfl
theorem zz38_iter3 (N : Nat) (kX : St → Option (Y5 × Unit)) (kO : Nat → St → Option (Y5 × Unit)) : ∀ (n : Nat) (o0 : Y5) (d3 : Y5) (t10 : Int) (t11 : Int), zz38_R3 N n (zz38_E3 kX kO) o0 d3 t10 t11 = zz38_l3 N (zz38_X3 kX) n o0 d3 t10 t11
  | 0, _, _, _, _ => rfl
  | m + 1, o0, d3, t10, t11 => by
    have hrec : zz38_R3 N m (zz38_E3 kX kO) = (zz38_l3 N (zz38_X3 kX) m) := (funext fun o0 => (funext fun d3 => (funext fun t10 => (funext fun t11 => zz38_iter3 N kX kO m o0 d3 t10 t11))))
    refine (zz38_step3 N m kX kO o0 d3 t10 t11).trans ?_
    rw [(funext fun o0 => (funext fun d3 => (funext fun x4 => (funext fun t10 => (funext fun t11 => (funext fun t15 => (funext fun t16 => zz38_in6 N m kX kO (zz38_l3 N (zz38_X3 kX) m) hrec o0 d3 x4 t10 t11 t15 t16)))))))]
    rfl
noncomputable abbrev zz38_K3 (N : Nat) : Ex → St → Option (Y5 × Unit) := (blockK 0 (seqK ((A_zz38).shape 23) (run (A_zz38) N (codeAt Try.f56 [1, 1, 1])) zz38_z))
noncomputable abbrev zz38_k3 (N : Nat) : St → Option (Y5 × Unit) := fun st' => run (A_zz38) N (codeAt Try.f56 [1, 1, 1]) st' zz38_z
theorem zz38_after3 (N : Nat) (d3 : Y5) : zz38_X3 (zz38_k3 N) d3 = zz38_a3 d3 := by kernel_rfl
theorem zz38_in3 (N : Nat) (o0 : Y5) (d3 : Y5) (t10 : Int) (t11 : Int) : zz38_R3 N N (zz38_K3 N) o0 d3 t10 t11 = zz38_F3 N o0 d3 t10 t11 :=
  have h : zz38_X3 (zz38_k3 N) = (zz38_a3) := (funext fun d3 => zz38_after3 N d3)
  ((iter_ex (fun st => by kernel_rfl) (fun st => by kernel_rfl)).trans (zz38_iter3 N (zz38_k3 N) (fun j st => (zz38_K3 N) (.exit j) st) N o0 d3 t10 t11)).trans (congrArg (fun k => zz38_l3 N k N o0 d3 t10 t11) h)
theorem run0_zz38 (N : Nat) (x : (S_zz38).a.den) : runF (A_zz38) N Try.f56 S_zz38 x = (zz38_s (zz38_R3 N N (zz38_K3 N)) x.1) := by kernel_rfl
theorem run_zz38 (N : Nat) (x : (S_zz38).a.den) : runF (A_zz38) N Try.f56 S_zz38 x = zz38 N x.1 := by
  refine (run0_zz38 N x).trans ?_
  rw [(funext fun o0 => (funext fun d3 => (funext fun t10 => (funext fun t11 => zz38_in3 N o0 d3 t10 t11))))]
  rfl
theorem fn_zz38 : FnOk Try.prog 56 := ⟨_, Try.func56, by kernel_rfl, by kernel_rfl⟩
theorem good_zz38 : Gx.Good Try.prog 56 S_zz38 := good_of_run Try.func56 (of_decide_eq_true (by kernel_rfl)) fun x r h => ⟨A_zz38, big, mkCfg_ok tabOk, mkCfg_sigs (show SigsOk Try.prog [(61, S_zz29)] from ⟨⟨fn_zz29, good_zz29⟩, trivial⟩), (run_zz38 big x).trans h⟩

/-! zz39 -/
def zz39_s (p_0 : Y2) : Option ((Y1 × (Bool × Unit)) × Unit) :=
  (zz33 big p_0).bind fun rq1 =>
  cond (!((((), rq1.1.2).2).1))
  (some ((none, false, ()), (())))
  (cond (decide ((rq1.1.1.length : Int) = (0 : Int)))
  (some ((none, false, ()), (())))
  ((zz37 big rq1.1.1).bind fun rq2 =>
  (zz38 big rq1.1.1).bind fun rq3 =>
  (zz37 big rq3.1).bind fun rq4 =>
  cond ((((), rq2.1.2).2).1)
  (some ((some (rq1.1.1, (rq2.1.1, (rq4.1.1, ()))), (((), rq4.1.2).2).1, ()), (())))
  (some ((some (rq1.1.1, (rq2.1.1, (rq4.1.1, ()))), false, ()), (())))))
def zz39 (p_0 : Y2) : Option ((Y1 × (Bool × Unit)) × Unit) := zz39_s p_0
def S_zz39 : Sig := { a := (.pair (.pair (.sl (.sl I)) .unit) .unit), md := [0], mf := [], m := .unit, r := (.tup (.pair (.opt (.pair (.sl (.sl .bool)) (.pair (.sl (.sl I)) (.pair (.sl (.sl I)) .unit)))) (.pair .bool .unit))), rf := .i, f := fun x => zz39 x.1 }
def A_zz39 : Cfg := mkCfg tab [(54, S_zz33), (55, S_zz37), (56, S_zz38)] []
theorem run_zz39 (N : Nat) (x : (S_zz39).a.den) : runF (A_zz39) N Try.f40 S_zz39 x = zz39 x.1 := by kernel_rfl
theorem fn_zz39 : FnOk Try.prog 40 := ⟨_, Try.func40, by kernel_rfl, by kernel_rfl⟩
theorem good_zz39 : Gx.Good Try.prog 40 S_zz39 := good_of_run Try.func40 (of_decide_eq_true (by kernel_rfl)) fun x r h => ⟨A_zz39, big, mkCfg_ok tabOk, mkCfg_sigs (show SigsOk Try.prog [(54, S_zz33), (55, S_zz37), (56, S_zz38)] from ⟨⟨fn_zz33, good_zz33⟩, ⟨fn_zz37, good_zz37⟩, ⟨fn_zz38, good_zz38⟩, trivial⟩), (run_zz39 big x).trans h⟩

/-! zz40 -/
def zz40_s (p_0 : Y2) : Option ((Y1 × (Bool × Unit)) × Unit) :=
  (zz39 p_0).bind fun rq1 =>
  cond rq1.1.2.1
  ((rq1.1.1).bind fun xq2 =>
  some ((rq1.1.1, decide ((xq2.1.length : Int) ≤ (8 : Int)), ()), (())))
  (some ((rq1.1.1, false, ()), (())))
def zz40 (p_0 : Y2) : Option ((Y1 × (Bool × Unit)) × Unit) := zz40_s p_0
def S_zz40 : Sig := { a := (.pair (.pair (.sl (.sl I)) .unit) .unit), md := [0], mf := [], m := .unit, r := (.tup (.pair (.opt (.pair (.sl (.sl .bool)) (.pair (.sl (.sl I)) (.pair (.sl (.sl I)) .unit)))) (.pair .bool .unit))), rf := .i, f := fun x => zz40 x.1 }
def A_zz40 : Cfg := mkCfg tab [(40, S_zz39)] []
theorem run_zz40 (N : Nat) (x : (S_zz40).a.den) : runF (A_zz40) N Try.f24 S_zz40 x = zz40 x.1 := by kernel_rfl
theorem fn_zz40 : FnOk Try.prog 24 := ⟨_, Try.func24, by kernel_rfl, by kernel_rfl⟩
theorem good_zz40 : Gx.Good Try.prog 24 S_zz40 := good_of_run Try.func24 (of_decide_eq_true (by kernel_rfl)) fun x r h => ⟨A_zz40, big, mkCfg_ok tabOk, mkCfg_sigs (show SigsOk Try.prog [(40, S_zz39)] from ⟨⟨fn_zz39, good_zz39⟩, trivial⟩), (run_zz40 big x).trans h⟩

/-! zz41 -/
def zz41_b3 (rec : Y6 → Y6 → Y3 → Int → Int → Option (Y6 × Unit)) (k : Y6 → Y6 → Option (Y6 × Unit)) (t2 : Y6) (f3 : Y6) (t7 : Y3) (t8 : Int) (t9 : Int) : Option (Y6 × Unit) :=
  cond (decide (t9 < t8))
  ((atI t7 t9).bind fun xq1 =>
  (appI f3.2.1 xq1).bind fun xq2 =>
  rec t2 ((f3.1, ((), f3.2.2)).1, (xq2, ((f3.1, ((), f3.2.2)).2).2)) t7 t8 (IntKind.i64.wrap (t9 + (1 : Int))))
  (k t2 f3)
def zz41_a3 (t2 : Y6) (f3 : Y6) : Option (Y6 × Unit) :=
  some (f3, (()))
def zz41_s (L3 : Y6 → Y6 → Y3 → Int → Int → Option (Y6 × Unit)) (table_0 : Y3) : Option (Y6 × Unit) :=
  L3 ((0 : Int), (([] : Y4), ())) ((2 : Int), (([] : Y4), ())) table_0 (table_0.length : Int) (0 : Int)
def zz41_l3 (N : Nat) (k : Y6 → Y6 → Option (Y6 × Unit)) : Nat → Y6 → Y6 → Y3 → Int → Int → Option (Y6 × Unit)
  | 0, _, _, _, _, _ => none
  | m + 1, t2, f3, t7, t8, t9 => zz41_b3 (zz41_l3 N k m) k t2 f3 t7 t8 t9
def zz41_F3 (N : Nat) (t2 : Y6) (f3 : Y6) (t7 : Y3) (t8 : Int) (t9 : Int) : Option (Y6 × Unit) := zz41_l3 N (zz41_a3) N t2 f3 t7 t8 t9
def zz41 (N : Nat) (table_0 : Y3) : Option (Y6 × Unit) := zz41_s (zz41_F3 N) table_0
def S_zz41 : Sig := { a := (.pair (.sl (.sl I)) .unit), md := [0], mf := [], m := .unit, r := (.pair I (.pair (.sl I) .unit)), rf := (.p .i (.p (.o .i) .i)), f := fun x => zz41 big x.1 }
def A_zz41 : Cfg := mkCfg tab [] [(6, [.drop, .drop, .as (.ptr (.pair I (.pair (.sl I) .unit))) (.o (.p .i (.p (.o .i) .i))), .as (.ptr (.pair I (.pair (.sl I) .unit))) (.o (.p .i (.p (.o .i) .i))), .drop, .drop, .drop, .as (.sl (.sl I)) .i, .as I .i, .as I .i]), (15, [.drop, .drop, .as (.ptr (.pair I (.pair (.sl I) .unit))) (.o (.p .i (.p (.o .i) .i))), .as (.ptr (.pair I (.pair (.sl I) .unit))) (.o (.p .i (.p (.o .i) .i)))])]
noncomputable def zz41_R3 (N n : Nat) (K : Ex → St → Option (Y6 × Unit)) (t2 : Y6) (f3 : Y6) (t7 : Y3) (t8 : Int) (t9 : Int) : Option (Y6 × Unit) := iter ((A_zz41).shape 6) (run (A_zz41) N (codeAt Try.f44 [1, 1, 0, 1, 0, 0])) n ([.u, .u, .val (.ptr (.pair I (.pair (.sl I) .unit))) (.o (.p .i (.p (.o .i) .i))) t2, .val (.ptr (.pair I (.pair (.sl I) .unit))) (.o (.p .i (.p (.o .i) .i))) f3, .u, .u, .u, .val (.sl (.sl I)) .i t7, .val I .i t8, .val I .i t9] ++ List.replicate 10 .u) K
noncomputable abbrev zz41_z : Ex → St → Option (Y6 × Unit) := finish (A_zz41) S_zz41 Try.f44.results.toList
noncomputable abbrev zz41_X3 (kX : St → Option (Y6 × Unit)) : Y6 → Y6 → Option (Y6 × Unit) := fun (t2 : Y6) (f3 : Y6) => kX ([.u, .u, .val (.ptr (.pair I (.pair (.sl I) .unit))) (.o (.p .i (.p (.o .i) .i))) t2, .val (.ptr (.pair I (.pair (.sl I) .unit))) (.o (.p .i (.p (.o .i) .i))) f3] ++ List.replicate 16 .u)
noncomputable abbrev zz41_E3 (kX : St → Option (Y6 × Unit)) (kO : Nat → St → Option (Y6 × Unit)) : Ex → St → Option (Y6 × Unit) := exK zz41_z 0 ((A_zz41).shape 15) kX kO
theorem zz41_step3 (N : Nat) (m : Nat) (kX : St → Option (Y6 × Unit)) (kO : Nat → St → Option (Y6 × Unit)) (t2 : Y6) (f3 : Y6) (t7 : Y3) (t8 : Int) (t9 : Int) : zz41_R3 N (m + 1) (zz41_E3 kX kO) t2 f3 t7 t8 t9 = zz41_b3 (zz41_R3 N m (zz41_E3 kX kO)) (zz41_X3 kX) t2 f3 t7 t8 t9 := by kernel_rfl
theorem zz41_iter3 (N : Nat) (kX : St → Option (Y6 × Unit)) (kO : Nat → St → Option (Y6 × Unit)) : ∀ (n : Nat) (t2 : Y6) (f3 : Y6) (t7 : Y3) (t8 : Int) (t9 : Int), zz41_R3 N n (zz41_E3 kX kO) t2 f3 t7 t8 t9 = zz41_l3 N (zz41_X3 kX) n t2 f3 t7 t8 t9
  | 0, _, _, _, _, _ => rfl
  | m + 1, t2, f3, t7, t8, t9 => by
    have hrec : zz41_R3 N m (zz41_E3 kX kO) = (zz41_l3 N (zz41_X3 kX) m) := (funext fun t2 => (funext fun f3 => (funext fun t7 => (funext fun t8 => (funext fun t9 => zz41_iter3 N kX kO m t2 f3 t7 t8 t9)))))
    refine (zz41_step3 N m kX kO t2 f3 t7 t8 t9).trans ?_
    rw [hrec]
    rfl
noncomputable abbrev zz41_K3 (N : Nat) : Ex → St → Option (Y6 × Unit) := (blockK 0 (seqK ((A_zz41).shape 15) (run (A_zz41) N (codeAt Try.f44 [1, 1, 1])) zz41_z))
noncomputable abbrev zz41_k3 (N : Nat) : St → Option (Y6 × Unit) := fun st' => run (A_zz41) N (codeAt Try.f44 [1, 1, 1]) st' zz41_z
theorem zz41_after3 (N : Nat) (t2 : Y6) (f3 : Y6) : zz41_X3 (zz41_k3 N) t2 f3 = zz41_a3 t2 f3 := by kernel_rfl
theorem zz41_in3 (N : Nat) (t2 : Y6) (f3 : Y6) (t7 : Y3) (t8 : Int) (t9 : Int) : zz41_R3 N N (zz41_K3 N) t2 f3 t7 t8 t9 = zz41_F3 N t2 f3 t7 t8 t9 :=
  have h : zz41_X3 (zz41_k3 N) = (zz41_a3) := (funext fun t2 => (funext fun f3 => zz41_after3 N t2 f3))
  ((iter_ex (fun st => by kernel_rfl) (fun st => by kernel_rfl)).trans (zz41_iter3 N (zz41_k3 N) (fun j st => (zz41_K3 N) (.exit j) st) N t2 f3 t7 t8 t9)).trans (congrArg (fun k => zz41_l3 N k N t2 f3 t7 t8 t9) h)
theorem run0_zz41 (N : Nat) (x : (S_zz41).a.den) : runF (A_zz41) N Try.f44 S_zz41 x = (zz41_s (zz41_R3 N N (zz41_K3 N)) x.1) := by kernel_rfl
theorem run_zz41 (N : Nat) (x : (S_zz41).a.den) : runF (A_zz41) N Try.f44 S_zz41 x = zz41 N x.1 := by
  refine (run0_zz41 N x).trans ?_
  rw [(funext fun t2 => (funext fun f3 => (funext fun t7 => (funext fun t8 => (funext fun t9 => zz41_in3 N t2 f3 t7 t8 t9)))))]
  rfl
theorem fn_zz41 : FnOk Try.prog 44 := ⟨_, Try.func44, by kernel_rfl, by kernel_rfl⟩
theorem good_zz41 : Gx.Good Try.prog 44 S_zz41 := good_of_run Try.func44 (of_decide_eq_true (by kernel_rfl)) fun x r h => ⟨A_zz41, big, mkCfg_ok tabOk, mkCfg_sigs (show SigsOk Try.prog [] from trivial), (run_zz41 big x).trans h⟩

/-! zz42 -/
def zz42_s (l_0 : Y1) : Option (Y7 × Unit) :=
  (l_0).bind fun xq1 =>
  (l_0).bind fun xq2 =>
  (zz41 big xq2.2.1).bind fun rq3 =>
  (l_0).bind fun xq4 =>
  (zz41 big xq4.2.2.1).bind fun rq5 =>
  some (((xq1.1.length : Int), ([rq3.1, rq5.1], ())), (()))
def zz42 (l_0 : Y1) : Option (Y7 × Unit) := zz42_s l_0
def S_zz42 : Sig := { a := (.pair (.opt (.pair (.sl (.sl .bool)) (.pair (.sl (.sl I)) (.pair (.sl (.sl I)) .unit)))) .unit), md := [0], mf := [], m := .unit, r := (.pair I (.pair (.sl (.pair I (.pair (.sl I) .unit))) .unit)), rf := (.p .i (.p (.o (.p .i (.p (.o .i) .i))) .i)), f := fun x => zz42 x.1 }
def A_zz42 : Cfg := mkCfg tab [(44, S_zz41)] []
theorem run_zz42 (N : Nat) (x : (S_zz42).a.den) : runF (A_zz42) N Try.f26 S_zz42 x = zz42 x.1 := by kernel_rfl
theorem fn_zz42 : FnOk Try.prog 26 := ⟨_, Try.func26, by kernel_rfl, by kernel_rfl⟩
theorem good_zz42 : Gx.Good Try.prog 26 S_zz42 := good_of_run Try.func26 (of_decide_eq_true (by kernel_rfl)) fun x r h => ⟨A_zz42, big, mkCfg_ok tabOk, mkCfg_sigs (show SigsOk Try.prog [(44, S_zz41)] from ⟨⟨fn_zz41, good_zz41⟩, trivial⟩), (run_zz42 big x).trans h⟩

/-! zz43 -/
def zz43_b4 (rec : Y4 → Y4 → Int → Int → Option (Bool × Unit)) (k : Option (Bool × Unit)) (p1 : Y4) (t11 : Y4) (t12 : Int) (t13 : Int) : Option (Bool × Unit) :=
  cond (decide (t13 < t12))
  ((atI t11 t13).bind fun xq1 =>
  cond (decide (xq1 < (0 : Int)))
  (some (false, (())))
  (cond (decide (t13 < xq1))
  (some (false, (())))
  ((atI p1 xq1).bind fun xq2 =>
  cond (decide (xq2 ≠ xq1))
  (some (false, (())))
  (rec p1 t11 t12 (IntKind.i64.wrap (t13 + (1 : Int)))))))
  (k)
def zz43_a4 : Option (Bool × Unit) :=
  some (true, (()))
def zz43_s (L4 : Y4 → Y4 → Int → Int → Option (Bool × Unit)) (n_0 : Int) (p_1 : Y4) : Option (Bool × Unit) :=
  cond (decide ((p_1.length : Int) ≠ n_0))
  (some (false, (())))
  (L4 p_1 p_1 (p_1.length : Int) (0 : Int))
def zz43_l4 (N : Nat) (k : Option (Bool × Unit)) : Nat → Y4 → Y4 → Int → Int → Option (Bool × Unit)
  | 0, _, _, _, _ => none
  | m + 1, p1, t11, t12, t13 => zz43_b4 (zz43_l4 N k m) k p1 t11 t12 t13
def zz43_F4 (N : Nat) (p1 : Y4) (t11 : Y4) (t12 : Int) (t13 : Int) : Option (Bool × Unit) := zz43_l4 N (zz43_a4) N p1 t11 t12 t13
def zz43 (N : Nat) (n_0 : Int) (p_1 : Y4) : Option (Bool × Unit) := zz43_s (zz43_F4 N) n_0 p_1
def S_zz43 : Sig := { a := (.pair I (.pair (.sl I) .unit)), md := [0, 0], mf := [], m := .unit, r := .bool, rf := .i, f := fun x => zz43 big x.1 x.2.1 }
def A_zz43 : Cfg := mkCfg tab [] [(8, [.drop, .as (.sl I) .i, .drop, .drop, .drop, .drop, .drop, .drop, .drop, .drop, .drop, .as (.sl I) .i, .as I .i, .as I .i]), (19, [])]
noncomputable def zz43_R4 (N n : Nat) (K : Ex → St → Option (Bool × Unit)) (p1 : Y4) (t11 : Y4) (t12 : Int) (t13 : Int) : Option (Bool × Unit) := iter ((A_zz43).shape 8) (run (A_zz43) N (codeAt Try.f41 [1, 1, 0, 1, 0, 0])) n ([.u, .val (.sl I) .i p1, .u, .u, .u, .u, .u, .u, .u, .u, .u, .val (.sl I) .i t11, .val I .i t12, .val I .i t13] ++ List.replicate 20 .u) K
noncomputable abbrev zz43_z : Ex → St → Option (Bool × Unit) := finish (A_zz43) S_zz43 Try.f41.results.toList
noncomputable abbrev zz43_X4 (kX : St → Option (Bool × Unit)) : Option (Bool × Unit) := kX ([] ++ List.replicate 34 .u)
noncomputable abbrev zz43_E4 (kX : St → Option (Bool × Unit)) (kO : Nat → St → Option (Bool × Unit)) : Ex → St → Option (Bool × Unit) := exK zz43_z 0 ((A_zz43).shape 19) kX kO
theorem zz43_step4 (N : Nat) (m : Nat) (kX : St → Option (Bool × Unit)) (kO : Nat → St → Option (Bool × Unit)) (p1 : Y4) (t11 : Y4) (t12 : Int) (t13 : Int) : zz43_R4 N (m + 1) (zz43_E4 kX kO) p1 t11 t12 t13 = zz43_b4 (zz43_R4 N m (zz43_E4 kX kO)) (zz43_X4 kX) p1 t11 t12 t13 := by kernel_rfl
theorem zz43_iter4 (N : Nat) (kX : St → Option (Bool × Unit)) (kO : Nat → St → Option (Bool × Unit)) : ∀ (n : Nat) (p1 : Y4) (t11 : Y4) (t12 : Int) (t13 : Int), zz43_R4 N n (zz43_E4 kX kO) p1 t11 t12 t13 = zz43_l4 N (zz43_X4 kX) n p1 t11 t12 t13
  | 0, _, _, _, _ => rfl
  | m + 1, p1, t11, t12, t13 => by
    have hrec : zz43_R4 N m (zz43_E4 kX kO) = (zz43_l4 N (zz43_X4 kX) m) := (funext fun p1 => (funext fun t11 => (funext fun t12 => (funext fun t13 => zz43_iter4 N kX kO m p1 t11 t12 t13))))
    refine (zz43_step4 N m kX kO p1 t11 t12 t13).trans ?_
    rw [hrec]
    rfl
noncomputable abbrev zz43_K4 (N : Nat) : Ex → St → Option (Bool × Unit) := (blockK 0 (seqK ((A_zz43).shape 19) (run (A_zz43) N (codeAt Try.f41 [1, 1, 1])) zz43_z))
noncomputable abbrev zz43_k4 (N : Nat) : St → Option (Bool × Unit) := fun st' => run (A_zz43) N (codeAt Try.f41 [1, 1, 1]) st' zz43_z
theorem zz43_after4 (N : Nat) : zz43_X4 (zz43_k4 N) = zz43_a4 := by kernel_rfl
theorem zz43_in4 (N : Nat) (p1 : Y4) (t11 : Y4) (t12 : Int) (t13 : Int) : zz43_R4 N N (zz43_K4 N) p1 t11 t12 t13 = zz43_F4 N p1 t11 t12 t13 :=
  have h : zz43_X4 (zz43_k4 N) = (zz43_a4) := zz43_after4 N
  ((iter_ex (fun st => by kernel_rfl) (fun st => by kernel_rfl)).trans (zz43_iter4 N (zz43_k4 N) (fun j st => (zz43_K4 N) (.exit j) st) N p1 t11 t12 t13)).trans (congrArg (fun k => zz43_l4 N k N p1 t11 t12 t13) h)
theorem run0_zz43 (N : Nat) (x : (S_zz43).a.den) : runF (A_zz43) N Try.f41 S_zz43 x = (zz43_s (zz43_R4 N N (zz43_K4 N)) x.1 x.2.1) := by kernel_rfl
theorem run_zz43 (N : Nat) (x : (S_zz43).a.den) : runF (A_zz43) N Try.f41 S_zz43 x = zz43 N x.1 x.2.1 := by
  refine (run0_zz43 N x).trans ?_
  rw [(funext fun p1 => (funext fun t11 => (funext fun t12 => (funext fun t13 => zz43_in4 N p1 t11 t12 t13))))]
  rfl
theorem fn_zz43 : FnOk Try.prog 41 := ⟨_, Try.func41, by kernel_rfl, by kernel_rfl⟩
theorem good_zz43 : Gx.Good Try.prog 41 S_zz43 := good_of_run Try.func41 (of_decide_eq_true (by kernel_rfl)) fun x r h => ⟨A_zz43, big, mkCfg_ok tabOk, mkCfg_sigs (show SigsOk Try.prog [] from trivial), (run_zz43 big x).trans h⟩

/-! zz44 -/
def zz44_s (list_0 : Y4) : Option (Y4 × Unit) :=
  (appI [] list_0).bind fun xq1 =>
  some (xq1, (()))
def zz44 (list_0 : Y4) : Option (Y4 × Unit) := zz44_s list_0
def S_zz44 : Sig := { a := (.pair (.sl I) .unit), md := [0], mf := [], m := .unit, r := (.sl I), rf := (.o .i), f := fun x => zz44 x.1 }
def A_zz44 : Cfg := mkCfg tab [] []
theorem run_zz44 (N : Nat) (x : (S_zz44).a.den) : runF (A_zz44) N Try.f43 S_zz44 x = zz44 x.1 := by kernel_rfl
theorem fn_zz44 : FnOk Try.prog 43 := ⟨_, Try.func43, by kernel_rfl, by kernel_rfl⟩
theorem good_zz44 : Gx.Good Try.prog 43 S_zz44 := good_of_run Try.func43 (of_decide_eq_true (by kernel_rfl)) fun x r h => ⟨A_zz44, big, mkCfg_ok tabOk, mkCfg_sigs (show SigsOk Try.prog [] from trivial), (run_zz44 big x).trans h⟩

/-! zz45 -/
def zz45_b7 (rec : Y4 → Int → Int → Int → Int → Option (Bool × (Y4 × Unit))) (k : Y4 → Option (Bool × (Y4 × Unit))) (p0 : Y4) (x1 : Int) (y2 : Int) (t25 : Int) (t26 : Int) : Option (Bool × (Y4 × Unit)) :=
  cond (decide (t26 < t25))
  ((atI p0 t26).bind fun _ =>
  (p0[t26.toNat]?).bind fun xq3 =>
  cond (decide (xq3 = y2))
  ((atI p0 t26).bind fun _ =>
  (p0[t26.toNat]?).bind fun xq4 =>
  rec (p0.set t26.toNat x1) x1 y2 t25 (IntKind.i64.wrap (t26 + (1 : Int))))
  (rec p0 x1 y2 t25 (IntKind.i64.wrap (t26 + (1 : Int)))))
  (k p0)
def zz45_a7 (p0 : Y4) : Option (Bool × (Y4 × Unit)) :=
  some (true, (p0, ()))
def zz45_s (L7 : Y4 → Int → Int → Int → Int → Option (Bool × (Y4 × Unit))) (p_0 : Y4) (x_1 : Int) (y_2 : Int) : Option (Bool × (Y4 × Unit)) :=
  (atI p_0 x_1).bind fun _ =>
  (p_0[x_1.toNat]?).bind fun xq1 =>
  (atI p_0 y_2).bind fun _ =>
  (p_0[y_2.toNat]?).bind fun xq2 =>
  cond (decide (xq1 = xq2))
  (some (false, (p_0, ())))
  (cond (decide (xq2 < xq1))
  (L7 p_0 xq2 xq1 (p_0.length : Int) (0 : Int))
  (L7 p_0 xq1 xq2 (p_0.length : Int) (0 : Int)))
def zz45_l7 (N : Nat) (k : Y4 → Option (Bool × (Y4 × Unit))) : Nat → Y4 → Int → Int → Int → Int → Option (Bool × (Y4 × Unit))
  | 0, _, _, _, _, _ => none
  | m + 1, p0, x1, y2, t25, t26 => zz45_b7 (zz45_l7 N k m) k p0 x1 y2 t25 t26
def zz45_F7 (N : Nat) (p0 : Y4) (x1 : Int) (y2 : Int) (t25 : Int) (t26 : Int) : Option (Bool × (Y4 × Unit)) := zz45_l7 N (zz45_a7) N p0 x1 y2 t25 t26
def zz45 (N : Nat) (p_0 : Y4) (x_1 : Int) (y_2 : Int) : Option (Bool × (Y4 × Unit)) := zz45_s (zz45_F7 N) p_0 x_1 y_2
def S_zz45 : Sig := { a := (.pair (.sl I) (.pair I (.pair I .unit))), md := [1, 0, 0], mf := [(.o .i)], m := (.pair (.sl I) .unit), r := .bool, rf := .i, f := fun x => zz45 big x.1 x.2.1 x.2.2.1 }
def A_zz45 : Cfg := mkCfg tab [] [(14, [.as (.sl I) (.o .i), .as I .i, .as I .i, .drop, .drop, .drop, .drop, .drop, .drop, .drop, .drop, .drop, .drop, .drop, .drop, .drop, .drop, .drop, .drop, .drop, .drop, .drop, .drop, .drop, .drop, .as I .i, .as I .i]), (25, [.as (.sl I) (.o .i)])]
noncomputable def zz45_R7 (N n : Nat) (K : Ex → St → Option (Bool × (Y4 × Unit))) (p0 : Y4) (x1 : Int) (y2 : Int) (t25 : Int) (t26 : Int) : Option (Bool × (Y4 × Unit)) := iter ((A_zz45).shape 14) (run (A_zz45) N (codeAt Try.f57 [1, 1, 1, 1, 0, 1, 0, 0])) n ([.val (.sl I) (.o .i) p0, .val I .i x1, .val I .i y2, .u, .u, .u, .u, .u, .u, .u, .u, .u, .u, .u, .u, .u, .u, .u, .u, .u, .u, .u, .u, .u, .u, .val I .i t25, .val I .i t26] ++ List.replicate 13 .u) K
noncomputable abbrev zz45_z : Ex → St → Option (Bool × (Y4 × Unit)) := finish (A_zz45) S_zz45 Try.f57.results.toList
noncomputable abbrev zz45_X7 (kX : St → Option (Bool × (Y4 × Unit))) : Y4 → Option (Bool × (Y4 × Unit)) := fun (p0 : Y4) => kX ([.val (.sl I) (.o .i) p0] ++ List.replicate 39 .u)
noncomputable abbrev zz45_E7 (kX : St → Option (Bool × (Y4 × Unit))) (kO : Nat → St → Option (Bool × (Y4 × Unit))) : Ex → St → Option (Bool × (Y4 × Unit)) := exK zz45_z 0 ((A_zz45).shape 25) kX kO
theorem zz45_step7 (N : Nat) (m : Nat) (kX : St → Option (Bool × (Y4 × Unit))) (kO : Nat → St → Option (Bool × (Y4 × Unit))) (p0 : Y4) (x1 : Int) (y2 : Int) (t25 : Int) (t26 : Int) : zz45_R7 N (m + 1) (zz45_E7 kX kO) p0 x1 y2 t25 t26 = zz45_b7 (zz45_R7 N m (zz45_E7 kX kO)) (zz45_X7 kX) p0 x1 y2 t25 t26 := by kernel_rfl
theorem zz45_iter7 (N : Nat) (kX : St → Option (Bool × (Y4 × Unit))) (kO : Nat → St → Option (Bool × (Y4 × Unit))) : ∀ (n : Nat) (p0 : Y4) (x1 : Int) (y2 : Int) (t25 : Int) (t26 : Int), zz45_R7 N n (zz45_E7 kX kO) p0 x1 y2 t25 t26 = zz45_l7 N (zz45_X7 kX) n p0 x1 y2 t25 t26
  | 0, _, _, _, _, _ => rfl
  | m + 1, p0, x1, y2, t25, t26 => by
    have hrec : zz45_R7 N m (zz45_E7 kX kO) = (zz45_l7 N (zz45_X7 kX) m) := (funext fun p0 => (funext fun x1 => (funext fun y2 => (funext fun t25 => (funext fun t26 => zz45_iter7 N kX kO m p0 x1 y2 t25 t26)))))
    refine (zz45_step7 N m kX kO p0 x1 y2 t25 t26).trans ?_
    rw [hrec]
    rfl
noncomputable abbrev zz45_K7 (N : Nat) : Ex → St → Option (Bool × (Y4 × Unit)) := (blockK 0 (seqK ((A_zz45).shape 25) (run (A_zz45) N (codeAt Try.f57 [1, 1, 1, 1, 1])) zz45_z))
noncomputable abbrev zz45_k7 (N : Nat) : St → Option (Bool × (Y4 × Unit)) := fun st' => run (A_zz45) N (codeAt Try.f57 [1, 1, 1, 1, 1]) st' zz45_z
theorem zz45_after7 (N : Nat) (p0 : Y4) : zz45_X7 (zz45_k7 N) p0 = zz45_a7 p0 := by kernel_rfl
theorem zz45_in7 (N : Nat) (p0 : Y4) (x1 : Int) (y2 : Int) (t25 : Int) (t26 : Int) : zz45_R7 N N (zz45_K7 N) p0 x1 y2 t25 t26 = zz45_F7 N p0 x1 y2 t25 t26 :=
  have h : zz45_X7 (zz45_k7 N) = (zz45_a7) := (funext fun p0 => zz45_after7 N p0)
  ((iter_ex (fun st => by kernel_rfl) (fun st => by kernel_rfl)).trans (zz45_iter7 N (zz45_k7 N) (fun j st => (zz45_K7 N) (.exit j) st) N p0 x1 y2 t25 t26)).trans (congrArg (fun k => zz45_l7 N k N p0 x1 y2 t25 t26) h)
theorem run0_zz45 (N : Nat) (x : (S_zz45).a.den) : runF (A_zz45) N Try.f57 S_zz45 x = (zz45_s (zz45_R7 N N (zz45_K7 N)) x.1 x.2.1 x.2.2.1) := by kernel_rfl
theorem run_zz45 (N : Nat) (x : (S_zz45).a.den) : runF (A_zz45) N Try.f57 S_zz45 x = zz45 N x.1 x.2.1 x.2.2.1 := by
  refine (run0_zz45 N x).trans ?_
  rw [(funext fun p0 => (funext fun x1 => (funext fun y2 => (funext fun t25 => (funext fun t26 => zz45_in7 N p0 x1 y2 t25 t26)))))]
  rfl
theorem fn_zz45 : FnOk Try.prog 57 := ⟨_, Try.func57, by kernel_rfl, by kernel_rfl⟩
theorem good_zz45 : Gx.Good Try.prog 57 S_zz45 := good_of_run Try.func57 (of_decide_eq_true (by kernel_rfl)) fun x r h => ⟨A_zz45, big, mkCfg_ok tabOk, mkCfg_sigs (show SigsOk Try.prog [] from trivial), (run_zz45 big x).trans h⟩

/-! zz46 -/
def zz46_b13 (rec : Y4 → Y7 → Bool → Bool → Y6 → Int → Int → (List Y6) → Int → Int → Y4 → Int → Int → Option (Bool × (Y4 × Unit))) (k : Y4 → Y7 → Bool → Bool → Y6 → Int → Int → (List Y6) → Int → Int → Option (Bool × (Y4 × Unit))) (p1 : Y4) (a2 : Y7) (was5 : Bool) (changed6 : Bool) (f8 : Y6) (step9 : Int) (k10 : Int) (t16 : (List Y6)) (t17 : Int) (t18 : Int) (t29 : Y4) (t30 : Int) (t31 : Int) : Option (Bool × (Y4 × Unit)) :=
  cond (decide (t31 < t30))
  ((atI t29 t31).bind fun xq2 =>
  (quoI IntKind.i64 t31 step9).bind fun xq3 =>
  (remI xq3 a2.1).bind fun xq4 =>
  (atI p1 xq4).bind fun _ =>
  (p1[xq4.toNat]?).bind fun xq5 =>
  (atI f8.2.1 (IntKind.i64.wrap (t31 + (IntKind.i64.wrap ((IntKind.i64.wrap (xq5 - xq4)) * step9))))).bind fun xq6 =>
  (zz45 big p1 xq2 xq6).bind fun rq7 =>
  cond rq7.1
  (rec rq7.2.1 a2 true true f8 step9 k10 t16 t17 t18 t29 t30 (IntKind.i64.wrap (t31 + (1 : Int))))
  (rec rq7.2.1 a2 was5 changed6 f8 step9 k10 t16 t17 t18 t29 t30 (IntKind.i64.wrap (t31 + (1 : Int)))))
  (k p1 a2 was5 changed6 f8 step9 k10 t16 t17 t18)
def zz46_a13 (rec : Y4 → Y7 → Bool → Bool → Y6 → Int → Int → (List Y6) → Int → Int → Option (Bool × (Y4 × Unit))) (p1 : Y4) (a2 : Y7) (was5 : Bool) (changed6 : Bool) (f8 : Y6) (step9 : Int) (k10 : Int) (t16 : (List Y6)) (t17 : Int) (t18 : Int) : Option (Bool × (Y4 × Unit)) :=
  rec p1 a2 was5 changed6 f8 (IntKind.i64.wrap (step9 * a2.1)) (IntKind.i64.wrap (k10 + (1 : Int))) t16 t17 t18
def zz46_b10 (L13 : Y4 → Y7 → Bool → Bool → Y6 → Int → Int → (List Y6) → Int → Int → Y4 → Int → Int → Option (Bool × (Y4 × Unit))) (k : Y4 → Y7 → Bool → Bool → (List Y6) → Int → Int → Option (Bool × (Y4 × Unit))) (p1 : Y4) (a2 : Y7) (was5 : Bool) (changed6 : Bool) (f8 : Y6) (step9 : Int) (k10 : Int) (t16 : (List Y6)) (t17 : Int) (t18 : Int) : Option (Bool × (Y4 × Unit)) :=
  cond (decide (k10 < f8.1))
  (L13 p1 a2 was5 changed6 f8 step9 k10 t16 t17 t18 f8.2.1 (f8.2.1.length : Int) (0 : Int))
  (k p1 a2 was5 changed6 t16 t17 t18)
def zz46_a10 (rec : Y4 → Y7 → Bool → Bool → (List Y6) → Int → Int → Option (Bool × (Y4 × Unit))) (p1 : Y4) (a2 : Y7) (was5 : Bool) (changed6 : Bool) (t16 : (List Y6)) (t17 : Int) (t18 : Int) : Option (Bool × (Y4 × Unit)) :=
  rec p1 a2 was5 changed6 t16 t17 (IntKind.i64.wrap (t18 + (1 : Int)))
def zz46_b6 (L10 : Y4 → Y7 → Bool → Bool → Y6 → Int → Int → (List Y6) → Int → Int → Option (Bool × (Y4 × Unit))) (k : Y4 → Y7 → Bool → Bool → Option (Bool × (Y4 × Unit))) (p1 : Y4) (a2 : Y7) (was5 : Bool) (changed6 : Bool) (t16 : (List Y6)) (t17 : Int) (t18 : Int) : Option (Bool × (Y4 × Unit)) :=
  cond (decide (t18 < t17))
  ((atI t16 t18).bind fun xq1 =>
  L10 p1 a2 was5 changed6 xq1 (1 : Int) (0 : Int) t16 t17 t18)
  (k p1 a2 was5 changed6)
def zz46_a6 (rec : Y4 → Y7 → Bool → Bool → Option (Bool × (Y4 × Unit))) (p1 : Y4) (a2 : Y7) (was5 : Bool) (changed6 : Bool) : Option (Bool × (Y4 × Unit)) :=
  rec p1 a2 was5 changed6
def zz46_b3 (L6 : Y4 → Y7 → Bool → Bool → (List Y6) → Int → Int → Option (Bool × (Y4 × Unit))) (k : Y4 → Bool → Option (Bool × (Y4 × Unit))) (p1 : Y4) (a2 : Y7) (was5 : Bool) (changed6 : Bool) : Option (Bool × (Y4 × Unit)) :=
  cond changed6
  (L6 p1 a2 was5 false a2.2.1 (a2.2.1.length : Int) (0 : Int))
  (k p1 was5)
def zz46_a3 (p1 : Y4) (was5 : Bool) : Option (Bool × (Y4 × Unit)) :=
  some (was5, (p1, ()))
def zz46_s (L3 : Y4 → Y7 → Bool → Bool → Option (Bool × (Y4 × Unit))) (a_0 : Y7) (p_1 : Y4) : Option (Bool × (Y4 × Unit)) :=
  L3 p_1 a_0 false true
def zz46_l13 (N : Nat) (k : Y4 → Y7 → Bool → Bool → Y6 → Int → Int → (List Y6) → Int → Int → Option (Bool × (Y4 × Unit))) : Nat → Y4 → Y7 → Bool → Bool → Y6 → Int → Int → (List Y6) → Int → Int → Y4 → Int → Int → Option (Bool × (Y4 × Unit))
  | 0, _, _, _, _, _, _, _, _, _, _, _, _, _ => none
  | m + 1, p1, a2, was5, changed6, f8, step9, k10, t16, t17, t18, t29, t30, t31 => zz46_b13 (zz46_l13 N k m) k p1 a2 was5 changed6 f8 step9 k10 t16 t17 t18 t29 t30 t31
def zz46_F13 (N : Nat) (rec : Y4 → Y7 → Bool → Bool → Y6 → Int → Int → (List Y6) → Int → Int → Option (Bool × (Y4 × Unit))) (k : Y4 → Y7 → Bool → Bool → (List Y6) → Int → Int → Option (Bool × (Y4 × Unit))) (p1 : Y4) (a2 : Y7) (was5 : Bool) (changed6 : Bool) (f8 : Y6) (step9 : Int) (k10 : Int) (t16 : (List Y6)) (t17 : Int) (t18 : Int) (t29 : Y4) (t30 : Int) (t31 : Int) : Option (Bool × (Y4 × Unit)) := zz46_l13 N (zz46_a13 rec) N p1 a2 was5 changed6 f8 step9 k10 t16 t17 t18 t29 t30 t31
def zz46_l10 (N : Nat) (k : Y4 → Y7 → Bool → Bool → (List Y6) → Int → Int → Option (Bool × (Y4 × Unit))) : Nat → Y4 → Y7 → Bool → Bool → Y6 → Int → Int → (List Y6) → Int → Int → Option (Bool × (Y4 × Unit))
  | 0, _, _, _, _, _, _, _, _, _, _ => none
  | m + 1, p1, a2, was5, changed6, f8, step9, k10, t16, t17, t18 => zz46_b10 (zz46_F13 N (zz46_l10 N k m) k) k p1 a2 was5 changed6 f8 step9 k10 t16 t17 t18
def zz46_F10 (N : Nat) (rec : Y4 → Y7 → Bool → Bool → (List Y6) → Int → Int → Option (Bool × (Y4 × Unit))) (k : Y4 → Y7 → Bool → Bool → Option (Bool × (Y4 × Unit))) (p1 : Y4) (a2 : Y7) (was5 : Bool) (changed6 : Bool) (f8 : Y6) (step9 : Int) (k10 : Int) (t16 : (List Y6)) (t17 : Int) (t18 : Int) : Option (Bool × (Y4 × Unit)) := zz46_l10 N (zz46_a10 rec) N p1 a2 was5 changed6 f8 step9 k10 t16 t17 t18
def zz46_l6 (N : Nat) (k : Y4 → Y7 → Bool → Bool → Option (Bool × (Y4 × Unit))) : Nat → Y4 → Y7 → Bool → Bool → (List Y6) → Int → Int → Option (Bool × (Y4 × Unit))
  | 0, _, _, _, _, _, _, _ => none
  | m + 1, p1, a2, was5, changed6, t16, t17, t18 => zz46_b6 (zz46_F10 N (zz46_l6 N k m) k) k p1 a2 was5 changed6 t16 t17 t18
def zz46_F6 (N : Nat) (rec : Y4 → Y7 → Bool → Bool → Option (Bool × (Y4 × Unit))) (k : Y4 → Bool → Option (Bool × (Y4 × Unit))) (p1 : Y4) (a2 : Y7) (was5 : Bool) (changed6 : Bool) (t16 : (List Y6)) (t17 : Int) (t18 : Int) : Option (Bool × (Y4 × Unit)) := zz46_l6 N (zz46_a6 rec) N p1 a2 was5 changed6 t16 t17 t18
def zz46_l3 (N : Nat) (k : Y4 → Bool → Option (Bool × (Y4 × Unit))) : Nat → Y4 → Y7 → Bool → Bool → Option (Bool × (Y4 × Unit))
  | 0, _, _, _, _ => none
  | m + 1, p1, a2, was5, changed6 => zz46_b3 (zz46_F6 N (zz46_l3 N k m) k) k p1 a2 was5 changed6
def zz46_F3 (N : Nat) (p1 : Y4) (a2 : Y7) (was5 : Bool) (changed6 : Bool) : Option (Bool × (Y4 × Unit)) := zz46_l3 N (zz46_a3) N p1 a2 was5 changed6
def zz46 (N : Nat) (a_0 : Y7) (p_1 : Y4) : Option (Bool × (Y4 × Unit)) := zz46_s (zz46_F3 N) a_0 p_1
def S_zz46 : Sig := { a := (.pair (.pair I (.pair (.sl (.pair I (.pair (.sl I) .unit))) .unit)) (.pair (.sl I) .unit)), md := [0, 1], mf := [(.o .i)], m := (.pair (.sl I) .unit), r := .bool, rf := .i, f := fun x => zz46 big x.1 x.2.1 }
def A_zz46 : Cfg := mkCfg tab [(57, S_zz45)] [(6, [.drop, .as (.sl I) (.o .i), .as (.ptr (.pair I (.pair (.sl (.pair I (.pair (.sl I) .unit))) .unit))) (.o .i), .drop, .drop, .as .bool .i, .as .bool .i]), (12, [.drop, .as (.sl I) (.o .i), .as (.ptr (.pair I (.pair (.sl (.pair I (.pair (.sl I) .unit))) .unit))) (.o .i), .drop, .drop, .as .bool .i, .as .bool .i, .drop, .drop, .drop, .drop, .drop, .drop, .drop, .drop, .drop, .as (.sl (.pair I (.pair (.sl I) .unit))) .i, .as I .i, .as I .i]), (43, [.drop, .as (.sl I) (.o .i), .drop, .drop, .drop, .as .bool .i]), (20, [.drop, .as (.sl I) (.o .i), .as (.ptr (.pair I (.pair (.sl (.pair I (.pair (.sl I) .unit))) .unit))) (.o .i), .drop, .drop, .as .bool .i, .as .bool .i, .drop, .as (.ptr (.pair I (.pair (.sl I) .unit))) (.o .i), .as I .i, .as I .i, .drop, .drop, .drop, .drop, .drop, .as (.sl (.pair I (.pair (.sl I) .unit))) .i, .as I .i, .as I .i]), (26, [.drop, .as (.sl I) (.o .i), .as (.ptr (.pair I (.pair (.sl (.pair I (.pair (.sl I) .unit))) .unit))) (.o .i), .drop, .drop, .as .bool .i, .as .bool .i, .drop, .as (.ptr (.pair I (.pair (.sl I) .unit))) (.o .i), .as I .i, .as I .i, .drop, .drop, .drop, .drop, .drop, .as (.sl (.pair I (.pair (.sl I) .unit))) .i, .as I .i, .as I .i, .drop, .drop, .drop, .drop, .drop, .drop, .drop, .drop, .drop, .drop, .as (.sl I) .i, .as I .i, .as I .i]), (41, [.drop, .as (.sl I) (.o .i), .as (.ptr (.pair I (.pair (.sl (.pair I (.pair (.sl I) .unit))) .unit))) (.o .i), .drop, .drop, .as .bool .i, .as .bool .i, .drop, .drop, .drop, .drop, .drop, .drop, .drop, .drop, .drop, .as (.sl (.pair I (.pair (.sl I) .unit))) .i, .as I .i, .as I .i]), (39, [.drop, .as (.sl I) (.o .i), .as (.ptr (.pair I (.pair (.sl (.pair I (.pair (.sl I) .unit))) .unit))) (.o .i), .drop, .drop, .as .bool .i, .as .bool .i, .drop, .as (.ptr (.pair I (.pair (.sl I) .unit))) (.o .i), .as I .i, .as I .i, .drop, .drop, .drop, .drop, .drop, .as (.sl (.pair I (.pair (.sl I) .unit))) .i, .as I .i, .as I .i])]
noncomputable def zz46_R3 (N n : Nat) (K : Ex → St → Option (Bool × (Y4 × Unit))) (p1 : Y4) (a2 : Y7) (was5 : Bool) (changed6 : Bool) : Option (Bool × (Y4 × Unit)) := iter ((A_zz46).shape 6) (run (A_zz46) N (codeAt Try.f42 [1, 1, 0, 1, 0, 0])) n ([.u, .val (.sl I) (.o .i) p1, .val (.ptr (.pair I (.pair (.sl (.pair I (.pair (.sl I) .unit))) .unit))) (.o .i) a2, .u, .u, .val .bool .i was5, .val .bool .i changed6] ++ List.replicate 59 .u) K
noncomputable def zz46_R6 (N n : Nat) (K : Ex → St → Option (Bool × (Y4 × Unit))) (p1 : Y4) (a2 : Y7) (was5 : Bool) (changed6 : Bool) (t16 : (List Y6)) (t17 : Int) (t18 : Int) : Option (Bool × (Y4 × Unit)) := iter ((A_zz46).shape 12) (run (A_zz46) N (codeAt Try.f42 [1, 1, 0, 1, 0, 0, 1, 0, 1, 1, 0, 0])) n ([.u, .val (.sl I) (.o .i) p1, .val (.ptr (.pair I (.pair (.sl (.pair I (.pair (.sl I) .unit))) .unit))) (.o .i) a2, .u, .u, .val .bool .i was5, .val .bool .i changed6, .u, .u, .u, .u, .u, .u, .u, .u, .u, .val (.sl (.pair I (.pair (.sl I) .unit))) .i t16, .val I .i t17, .val I .i t18] ++ List.replicate 47 .u) K
noncomputable def zz46_R10 (N n : Nat) (K : Ex → St → Option (Bool × (Y4 × Unit))) (p1 : Y4) (a2 : Y7) (was5 : Bool) (changed6 : Bool) (f8 : Y6) (step9 : Int) (k10 : Int) (t16 : (List Y6)) (t17 : Int) (t18 : Int) : Option (Bool × (Y4 × Unit)) := iter ((A_zz46).shape 20) (run (A_zz46) N (codeAt Try.f42 [1, 1, 0, 1, 0, 0, 1, 0, 1, 1, 0, 0, 1, 1, 0, 0, 1, 1, 1, 0, 0])) n ([.u, .val (.sl I) (.o .i) p1, .val (.ptr (.pair I (.pair (.sl (.pair I (.pair (.sl I) .unit))) .unit))) (.o .i) a2, .u, .u, .val .bool .i was5, .val .bool .i changed6, .u, .val (.ptr (.pair I (.pair (.sl I) .unit))) (.o .i) f8, .val I .i step9, .val I .i k10, .u, .u, .u, .u, .u, .val (.sl (.pair I (.pair (.sl I) .unit))) .i t16, .val I .i t17, .val I .i t18] ++ List.replicate 47 .u) K
noncomputable def zz46_R13 (N n : Nat) (K : Ex → St → Option (Bool × (Y4 × Unit))) (p1 : Y4) (a2 : Y7) (was5 : Bool) (changed6 : Bool) (f8 : Y6) (step9 : Int) (k10 : Int) (t16 : (List Y6)) (t17 : Int) (t18 : Int) (t29 : Y4) (t30 : Int) (t31 : Int) : Option (Bool × (Y4 × Unit)) := iter ((A_zz46).shape 26) (run (A_zz46) N (codeAt Try.f42 [1, 1, 0, 1, 0, 0, 1, 0, 1, 1, 0, 0, 1, 1, 0, 0, 1, 1, 1, 0, 0, 1, 0, 0, 0, 1, 0, 0])) n ([.u, .val (.sl I) (.o .i) p1, .val (.ptr (.pair I (.pair (.sl (.pair I (.pair (.sl I) .unit))) .unit))) (.o .i) a2, .u, .u, .val .bool .i was5, .val .bool .i changed6, .u, .val (.ptr (.pair I (.pair (.sl I) .unit))) (.o .i) f8, .val I .i step9, .val I .i k10, .u, .u, .u, .u, .u, .val (.sl (.pair I (.pair (.sl I) .unit))) .i t16, .val I .i t17, .val I .i t18, .u, .u, .u, .u, .u, .u, .u, .u, .u, .u, .val (.sl I) .i t29, .val I .i t30, .val I .i t31] ++ List.replicate 34 .u) K
noncomputable abbrev zz46_z : Ex → St → Option (Bool × (Y4 × Unit)) := finish (A_zz46) S_zz46 Try.f42.results.toList
noncomputable abbrev zz46_X3 (kX : St → Option (Bool × (Y4 × Unit))) : Y4 → Bool → Option (Bool × (Y4 × Unit)) := fun (p1 : Y4) (was5 : Bool) => kX ([.u, .val (.sl I) (.o .i) p1, .u, .u, .u, .val .bool .i was5] ++ List.replicate 60 .u)
noncomputable abbrev zz46_E3 (kX : St → Option (Bool × (Y4 × Unit))) (kO : Nat → St → Option (Bool × (Y4 × Unit))) : Ex → St → Option (Bool × (Y4 × Unit)) := exK zz46_z 0 ((A_zz46).shape 43) kX kO
noncomputable abbrev zz46_X6 (kX : St → Option (Bool × (Y4 × Unit))) : Y4 → Y7 → Bool → Bool → Option (Bool × (Y4 × Unit)) := fun (p1 : Y4) (a2 : Y7) (was5 : Bool) (changed6 : Bool) => kX ([.u, .val (.sl I) (.o .i) p1, .val (.ptr (.pair I (.pair (.sl (.pair I (.pair (.sl I) .unit))) .unit))) (.o .i) a2, .u, .u, .val .bool .i was5, .val .bool .i changed6] ++ List.replicate 59 .u)
noncomputable abbrev zz46_E6 (kX : St → Option (Bool × (Y4 × Unit))) (kO : Nat → St → Option (Bool × (Y4 × Unit))) : Ex → St → Option (Bool × (Y4 × Unit)) := exK zz46_z 2 ((A_zz46).shape 6) kX kO
noncomputable abbrev zz46_X10 (kX : St → Option (Bool × (Y4 × Unit))) : Y4 → Y7 → Bool → Bool → (List Y6) → Int → Int → Option (Bool × (Y4 × Unit)) := fun (p1 : Y4) (a2 : Y7) (was5 : Bool) (changed6 : Bool) (t16 : (List Y6)) (t17 : Int) (t18 : Int) => kX ([.u, .val (.sl I) (.o .i) p1, .val (.ptr (.pair I (.pair (.sl (.pair I (.pair (.sl I) .unit))) .unit))) (.o .i) a2, .u, .u, .val .bool .i was5, .val .bool .i changed6, .u, .u, .u, .u, .u, .u, .u, .u, .u, .val (.sl (.pair I (.pair (.sl I) .unit))) .i t16, .val I .i t17, .val I .i t18] ++ List.replicate 47 .u)
noncomputable abbrev zz46_E10 (kX : St → Option (Bool × (Y4 × Unit))) (kO : Nat → St → Option (Bool × (Y4 × Unit))) : Ex → St → Option (Bool × (Y4 × Unit)) := exK zz46_z 4 ((A_zz46).shape 41) kX kO
noncomputable abbrev zz46_X13 (kX : St → Option (Bool × (Y4 × Unit))) : Y4 → Y7 → Bool → Bool → Y6 → Int → Int → (List Y6) → Int → Int → Option (Bool × (Y4 × Unit)) := fun (p1 : Y4) (a2 : Y7) (was5 : Bool) (changed6 : Bool) (f8 : Y6) (step9 : Int) (k10 : Int) (t16 : (List Y6)) (t17 : Int) (t18 : Int) => kX ([.u, .val (.sl I) (.o .i) p1, .val (.ptr (.pair I (.pair (.sl (.pair I (.pair (.sl I) .unit))) .unit))) (.o .i) a2, .u, .u, .val .bool .i was5, .val .bool .i changed6, .u, .val (.ptr (.pair I (.pair (.sl I) .unit))) (.o .i) f8, .val I .i step9, .val I .i k10, .u, .u, .u, .u, .u, .val (.sl (.pair I (.pair (.sl I) .unit))) .i t16, .val I .i t17, .val I .i t18] ++ List.replicate 47 .u)
noncomputable abbrev zz46_E13 (kX : St → Option (Bool × (Y4 × Unit))) (kO : Nat → St → Option (Bool × (Y4 × Unit))) : Ex → St → Option (Bool × (Y4 × Unit)) := exK zz46_z 6 ((A_zz46).shape 39) kX kO
theorem zz46_step13 (N : Nat) (m : Nat) (kX : St → Option (Bool × (Y4 × Unit))) (kO : Nat → St → Option (Bool × (Y4 × Unit))) (p1 : Y4) (a2 : Y7) (was5 : Bool) (changed6 : Bool) (f8 : Y6) (step9 : Int) (k10 : Int) (t16 : (List Y6)) (t17 : Int) (t18 : Int) (t29 : Y4) (t30 : Int) (t31 : Int) : zz46_R13 N (m + 1) (zz46_E13 kX kO) p1 a2 was5 changed6 f8 step9 k10 t16 t17 t18 t29 t30 t31 = zz46_b13 (zz46_R13 N m (zz46_E13 kX kO)) (zz46_X13 kX) p1 a2 was5 changed6 f8 step9 k10 t16 t17 t18 t29 t30 t31 := by kernel_rfl
theorem zz46_iter13 (N : Nat) (kX : St → Option (Bool × (Y4 × Unit))) (kO : Nat → St → Option (Bool × (Y4 × Unit))) : ∀ (n : Nat) (p1 : Y4) (a2 : Y7) (was5 : Bool) (changed6 : Bool) (f8 : Y6) (step9 : Int) (k10 : Int) (t16 : (List Y6)) (t17 : Int) (t18 : Int) (t29 : Y4) (t30 : Int) (t31 : Int), zz46_R13 N n (zz46_E13 kX kO) p1 a2 was5 changed6 f8 step9 k10 t16 t17 t18 t29 t30 t31 = zz46_l13 N (zz46_X13 kX) n p1 a2 was5 changed6 f8 step9 k10 t16 t17 t18 t29 t30 t31
  | 0, _, _, _, _, _, _, _, _, _, _, _, _, _ => rfl
  | m + 1, p1, a2, was5, changed6, f8, step9, k10, t16, t17, t18, t29, t30, t31 => by
    have hrec : zz46_R13 N m (zz46_E13 kX kO) = (zz46_l13 N (zz46_X13 kX) m) := (funext fun p1 => (funext fun a2 => (funext fun was5 => (funext fun changed6 => (funext fun f8 => (funext fun step9 => (funext fun k10 => (funext fun t16 => (funext fun t17 => (funext fun t18 => (funext fun t29 => (funext fun t30 => (funext fun t31 => zz46_iter13 N kX kO m p1 a2 was5 changed6 f8 step9 k10 t16 t17 t18 t29 t30 t31)))))))))))))
    refine (zz46_step13 N m kX kO p1 a2 was5 changed6 f8 step9 k10 t16 t17 t18 t29 t30 t31).trans ?_
    rw [hrec]
    rfl
noncomputable abbrev zz46_K13 (N : Nat) (m : Nat) (kX : St → Option (Bool × (Y4 × Unit))) (kO : Nat → St → Option (Bool × (Y4 × Unit))) : Ex → St → Option (Bool × (Y4 × Unit)) := (blockK 6 (seqK ((A_zz46).shape 39) (run (A_zz46) N (codeAt Try.f42 [1, 1, 0, 1, 0, 0, 1, 0, 1, 1, 0, 0, 1, 1, 0, 0, 1, 1, 1, 0, 0, 1, 0, 0, 1])) (blockK 5 (seqK ((A_zz46).shape 23) (run (A_zz46) N (codeAt Try.f42 [1, 1, 0, 1, 0, 0, 1, 0, 1, 1, 0, 0, 1, 1, 0, 0, 1, 1, 1, 0, 0, 1, 1])) (iterK ((A_zz46).shape 20) (run (A_zz46) N (codeAt Try.f42 [1, 1, 0, 1, 0, 0, 1, 0, 1, 1, 0, 0, 1, 1, 0, 0, 1, 1, 1, 0, 0])) m (zz46_E10 kX kO))))))
noncomputable abbrev zz46_k13 (N : Nat) (m : Nat) (kX : St → Option (Bool × (Y4 × Unit))) (kO : Nat → St → Option (Bool × (Y4 × Unit))) : St → Option (Bool × (Y4 × Unit)) := fun st' => run (A_zz46) N (codeAt Try.f42 [1, 1, 0, 1, 0, 0, 1, 0, 1, 1, 0, 0, 1, 1, 0, 0, 1, 1, 1, 0, 0, 1, 0, 0, 1]) st' (blockK 5 (seqK ((A_zz46).shape 23) (run (A_zz46) N (codeAt Try.f42 [1, 1, 0, 1, 0, 0, 1, 0, 1, 1, 0, 0, 1, 1, 0, 0, 1, 1, 1, 0, 0, 1, 1])) (iterK ((A_zz46).shape 20) (run (A_zz46) N (codeAt Try.f42 [1, 1, 0, 1, 0, 0, 1, 0, 1, 1, 0, 0, 1, 1, 0, 0, 1, 1, 1, 0, 0])) m (zz46_E10 kX kO))))
theorem zz46_after13 (N : Nat) (m : Nat) (kX : St → Option (Bool × (Y4 × Unit))) (kO : Nat → St → Option (Bool × (Y4 × Unit))) (p1 : Y4) (a2 : Y7) (was5 : Bool) (changed6 : Bool) (f8 : Y6) (step9 : Int) (k10 : Int) (t16 : (List Y6)) (t17 : Int) (t18 : Int) : zz46_X13 (zz46_k13 N m kX kO) p1 a2 was5 changed6 f8 step9 k10 t16 t17 t18 = zz46_a13 (zz46_R10 N m (zz46_E10 kX kO)) p1 a2 was5 changed6 f8 step9 k10 t16 t17 t18 := by kernel_rfl
theorem zz46_in13 (N : Nat) (m : Nat) (kX : St → Option (Bool × (Y4 × Unit))) (kO : Nat → St → Option (Bool × (Y4 × Unit))) (recF : Y4 → Y7 → Bool → Bool → Y6 → Int → Int → (List Y6) → Int → Int → Option (Bool × (Y4 × Unit))) (hrec : zz46_R10 N m (zz46_E10 kX kO) = recF) (p1 : Y4) (a2 : Y7) (was5 : Bool) (changed6 : Bool) (f8 : Y6) (step9 : Int) (k10 : Int) (t16 : (List Y6)) (t17 : Int) (t18 : Int) (t29 : Y4) (t30 : Int) (t31 : Int) : zz46_R13 N N (zz46_K13 N m kX kO) p1 a2 was5 changed6 f8 step9 k10 t16 t17 t18 t29 t30 t31 = zz46_F13 N recF (zz46_X10 kX) p1 a2 was5 changed6 f8 step9 k10 t16 t17 t18 t29 t30 t31 :=
  have h : zz46_X13 (zz46_k13 N m kX kO) = (zz46_a13 recF) := (funext fun p1 => (funext fun a2 => (funext fun was5 => (funext fun changed6 => (funext fun f8 => (funext fun step9 => (funext fun k10 => (funext fun t16 => (funext fun t17 => (funext fun t18 => (zz46_after13 N m kX kO p1 a2 was5 changed6 f8 step9 k10 t16 t17 t18).trans (by rw [hrec])))))))))))
  ((iter_ex (fun st => by kernel_rfl) (fun st => by kernel_rfl)).trans (zz46_iter13 N (zz46_k13 N m kX kO) (fun j st => (zz46_K13 N m kX kO) (.exit j) st) N p1 a2 was5 changed6 f8 step9 k10 t16 t17 t18 t29 t30 t31)).trans (congrArg (fun k => zz46_l13 N k N p1 a2 was5 changed6 f8 step9 k10 t16 t17 t18 t29 t30 t31) h)
theorem zz46_step10 (N : Nat) (m : Nat) (kX : St → Option (Bool × (Y4 × Unit))) (kO : Nat → St → Option (Bool × (Y4 × Unit))) (p1 : Y4) (a2 : Y7) (was5 : Bool) (changed6 : Bool) (f8 : Y6) (step9 : Int) (k10 : Int) (t16 : (List Y6)) (t17 : Int) (t18 : Int) : zz46_R10 N (m + 1) (zz46_E10 kX kO) p1 a2 was5 changed6 f8 step9 k10 t16 t17 t18 = zz46_b10 (zz46_R13 N N (zz46_K13 N m kX kO)) (zz46_X10 kX) p1 a2 was5 changed6 f8 step9 k10 t16 t17 t18 := by kernel_rfl
theorem zz46_iter10 (N : Nat) (kX : St → Option (Bool × (Y4 × Unit))) (kO : Nat → St → Option (Bool × (Y4 × Unit))) : ∀ (n : Nat) (p1 : Y4) (a2 : Y7) (was5 : Bool) (changed6 : Bool) (f8 : Y6) (step9 : Int) (k10 : Int) (t16 : (List Y6)) (t17 : Int) (t18 : Int), zz46_R10 N n (zz46_E10 kX kO) p1 a2 was5 changed6 f8 step9 k10 t16 t17 t18 = zz46_l10 N (zz46_X10 kX) n p1 a2 was5 changed6 f8 step9 k10 t16 t17 t18
  | 0, _, _, _, _, _, _, _, _, _, _ => rfl
  | m + 1, p1, a2, was5, changed6, f8, step9, k10, t16, t17, t18 => by
    have hrec : zz46_R10 N m (zz46_E10 kX kO) = (zz46_l10 N (zz46_X10 kX) m) := (funext fun p1 => (funext fun a2 => (funext fun was5 => (funext fun changed6 => (funext fun f8 => (funext fun step9 => (funext fun k10 => (funext fun t16 => (funext fun t17 => (funext fun t18 => zz46_iter10 N kX kO m p1 a2 was5 changed6 f8 step9 k10 t16 t17 t18))))))))))
    refine (zz46_step10 N m kX kO p1 a2 was5 changed6 f8 step9 k10 t16 t17 t18).trans ?_
    rw [(funext fun p1 => (funext fun a2 => (funext fun was5 => (funext fun changed6 => (funext fun f8 => (funext fun step9 => (funext fun k10 => (funext fun t16 => (funext fun t17 => (funext fun t18 => (funext fun t29 => (funext fun t30 => (funext fun t31 => zz46_in13 N m kX kO (zz46_l10 N (zz46_X10 kX) m) hrec p1 a2 was5 changed6 f8 step9 k10 t16 t17 t18 t29 t30 t31)))))))))))))]
    rfl
noncomputable abbrev zz46_K10 (N : Nat) (m : Nat) (kX : St → Option (Bool × (Y4 × Unit))) (kO : Nat → St → Option (Bool × (Y4 × Unit))) : Ex → St → Option (Bool × (Y4 × Unit)) := (blockK 4 (blockK 3 (seqK ((A_zz46).shape 41) (run (A_zz46) N (codeAt Try.f42 [1, 1, 0, 1, 0, 0, 1, 0, 1, 1, 0, 0, 1, 1, 1])) (iterK ((A_zz46).shape 12) (run (A_zz46) N (codeAt Try.f42 [1, 1, 0, 1, 0, 0, 1, 0, 1, 1, 0, 0])) m (zz46_E6 kX kO)))))
noncomputable abbrev zz46_k10 (N : Nat) (m : Nat) (kX : St → Option (Bool × (Y4 × Unit))) (kO : Nat → St → Option (Bool × (Y4 × Unit))) : St → Option (Bool × (Y4 × Unit)) := fun st' => run (A_zz46) N (codeAt Try.f42 [1, 1, 0, 1, 0, 0, 1, 0, 1, 1, 0, 0, 1, 1, 1]) st' (iterK ((A_zz46).shape 12) (run (A_zz46) N (codeAt Try.f42 [1, 1, 0, 1, 0, 0, 1, 0, 1, 1, 0, 0])) m (zz46_E6 kX kO))
theorem zz46_after10 (N : Nat) (m : Nat) (kX : St → Option (Bool × (Y4 × Unit))) (kO : Nat → St → Option (Bool × (Y4 × Unit))) (p1 : Y4) (a2 : Y7) (was5 : Bool) (changed6 : Bool) (t16 : (List Y6)) (t17 : Int) (t18 : Int) : zz46_X10 (zz46_k10 N m kX kO) p1 a2 was5 changed6 t16 t17 t18 = zz46_a10 (zz46_R6 N m (zz46_E6 kX kO)) p1 a2 was5 changed6 t16 t17 t18 := by kernel_rfl
theorem zz46_in10 (N : Nat) (m : Nat) (kX : St → Option (Bool × (Y4 × Unit))) (kO : Nat → St → Option (Bool × (Y4 × Unit))) (recF : Y4 → Y7 → Bool → Bool → (List Y6) → Int → Int → Option (Bool × (Y4 × Unit))) (hrec : zz46_R6 N m (zz46_E6 kX kO) = recF) (p1 : Y4) (a2 : Y7) (was5 : Bool) (changed6 : Bool) (f8 : Y6) (step9 : Int) (k10 : Int) (t16 : (List Y6)) (t17 : Int) (t18 : Int) : zz46_R10 N N (zz46_K10 N m kX kO) p1 a2 was5 changed6 f8 step9 k10 t16 t17 t18 = zz46_F10 N recF (zz46_X6 kX) p1 a2 was5 changed6 f8 step9 k10 t16 t17 t18 :=
  have h : zz46_X10 (zz46_k10 N m kX kO) = (zz46_a10 recF) := (funext fun p1 => (funext fun a2 => (funext fun was5 => (funext fun changed6 => (funext fun t16 => (funext fun t17 => (funext fun t18 => (zz46_after10 N m kX kO p1 a2 was5 changed6 t16 t17 t18).trans (by rw [hrec]))))))))
  ((iter_ex (fun st => by kernel_rfl) (fun st => by kernel_rfl)).trans (zz46_iter10 N (zz46_k10 N m kX kO) (fun j st => (zz46_K10 N m kX kO) (.exit j) st) N p1 a2 was5 changed6 f8 step9 k10 t16 t17 t18)).trans (congrArg (fun k => zz46_l10 N k N p1 a2 was5 changed6 f8 step9 k10 t16 t17 t18) h)
theorem zz46_step6 (N : Nat) (m : Nat) (kX : St → Option (Bool × (Y4 × Unit))) (kO : Nat → St → Option (Bool × (Y4 × Unit))) (p1 : Y4) (a2 : Y7) (was5 : Bool) (changed6 : Bool) (t16 : (List Y6)) (t17 : Int) (t18 : Int) : zz46_R6 N (m + 1) (zz46_E6 kX kO) p1 a2 was5 changed6 t16 t17 t18 = zz46_b6 (zz46_R10 N N (zz46_K10 N m kX kO)) (zz46_X6 kX) p1 a2 was5 changed6 t16 t17 t18 := by kernel_rfl
theorem zz46_iter6 (N : Nat) (kX : St → Option (Bool × (Y4 × Unit))) (kO : Nat → St → Option (Bool × (Y4 × Unit))) : ∀ (n : Nat) (p1 : Y4) (a2 : Y7) (was5 : Bool) (changed6 : Bool) (t16 : (List Y6)) (t17 : Int) (t18 : Int), zz46_R6 N n (zz46_E6 kX kO) p1 a2 was5 changed6 t16 t17 t18 = zz46_l6 N (zz46_X6 kX) n p1 a2 was5 changed6 t16 t17 t18
  | 0, _, _, _, _, _, _, _ => rfl
  | m + 1, p1, a2, was5, changed6, t16, t17, t18 => by
    have hrec : zz46_R6 N m (zz46_E6 kX kO) = (zz46_l6 N (zz46_X6 kX) m) := (funext fun p1 => (funext fun a2 => (funext fun was5 => (funext fun changed6 => (funext fun t16 => (funext fun t17 => (funext fun t18 => zz46_iter6 N kX kO m p1 a2 was5 changed6 t16 t17 t18)))))))
    refine (zz46_step6 N m kX kO p1 a2 was5 changed6 t16 t17 t18).trans ?_
    rw [(funext fun p1 => (funext fun a2 => (funext fun was5 => (funext fun changed6 => (funext fun f8 => (funext fun step9 => (funext fun k10 => (funext fun t16 => (funext fun t17 => (funext fun t18 => zz46_in10 N m kX kO (zz46_l6 N (zz46_X6 kX) m) hrec p1 a2 was5 changed6 f8 step9 k10 t16 t17 t18))))))))))]
    rfl
noncomputable abbrev zz46_K6 (N : Nat) (m : Nat) (kX : St → Option (Bool × (Y4 × Unit))) (kO : Nat → St → Option (Bool × (Y4 × Unit))) : Ex → St → Option (Bool × (Y4 × Unit)) := (blockK 2 (blockK 1 (iterK ((A_zz46).shape 6) (run (A_zz46) N (codeAt Try.f42 [1, 1, 0, 1, 0, 0])) m (zz46_E3 kX kO))))
noncomputable abbrev zz46_k6 (N : Nat) (m : Nat) (kX : St → Option (Bool × (Y4 × Unit))) (kO : Nat → St → Option (Bool × (Y4 × Unit))) : St → Option (Bool × (Y4 × Unit)) := fun st' => iter ((A_zz46).shape 6) (run (A_zz46) N (codeAt Try.f42 [1, 1, 0, 1, 0, 0])) m st' (zz46_E3 kX kO)
theorem zz46_after6 (N : Nat) (m : Nat) (kX : St → Option (Bool × (Y4 × Unit))) (kO : Nat → St → Option (Bool × (Y4 × Unit))) (p1 : Y4) (a2 : Y7) (was5 : Bool) (changed6 : Bool) : zz46_X6 (zz46_k6 N m kX kO) p1 a2 was5 changed6 = zz46_a6 (zz46_R3 N m (zz46_E3 kX kO)) p1 a2 was5 changed6 := by kernel_rfl
theorem zz46_in6 (N : Nat) (m : Nat) (kX : St → Option (Bool × (Y4 × Unit))) (kO : Nat → St → Option (Bool × (Y4 × Unit))) (recF : Y4 → Y7 → Bool → Bool → Option (Bool × (Y4 × Unit))) (hrec : zz46_R3 N m (zz46_E3 kX kO) = recF) (p1 : Y4) (a2 : Y7) (was5 : Bool) (changed6 : Bool) (t16 : (List Y6)) (t17 : Int) (t18 : Int) : zz46_R6 N N (zz46_K6 N m kX kO) p1 a2 was5 changed6 t16 t17 t18 = zz46_F6 N recF (zz46_X3 kX) p1 a2 was5 changed6 t16 t17 t18 :=
  have h : zz46_X6 (zz46_k6 N m kX kO) = (zz46_a6 recF) := (funext fun p1 => (funext fun a2 => (funext fun was5 => (funext fun changed6 => (zz46_after6 N m kX kO p1 a2 was5 changed6).trans (by rw [hrec])))))
  ((iter_ex (fun st => by kernel_rfl) (fun st => by kernel_rfl)).trans (zz46_iter6 N (zz46_k6 N m kX kO) (fun j st => (zz46_K6 N m kX kO) (.exit j) st) N p1 a2 was5 changed6 t16 t17 t18)).trans (congrArg (fun k => zz46_l6 N k N p1 a2 was5 changed6 t16 t17 t18) h)
theorem zz46_step3 (N : Nat) (m : Nat) (kX : St → Option (Bool × (Y4 × Unit))) (kO : Nat → St → Option (Bool × (Y4 × Unit))) (p1 : Y4) (a2 : Y7) (was5 : Bool) (changed6 : Bool) : zz46_R3 N (m + 1) (zz46_E3 kX kO) p1 a2 was5 changed6 = zz46_b3 (zz46_R6 N N (zz46_K6 N m kX kO)) (zz46_X3 kX) p1 a2 was5 changed6 := by kernel_rfl
theorem zz46_iter3 (N : Nat) (kX : St → Option (Bool × (Y4 × Unit))) (kO : Nat → St → Option (Bool × (Y4 × Unit))) : ∀ (n : Nat) (p1 : Y4) (a2 : Y7) (was5 : Bool) (changed6 : Bool), zz46_R3 N n (zz46_E3 kX kO) p1 a2 was5 changed6 = zz46_l3 N (zz46_X3 kX) n p1 a2 was5 changed6
  | 0, _, _, _, _ => rfl
  | m + 1, p1, a2, was5, changed6 => by
    have hrec : zz46_R3 N m (zz46_E3 kX kO) = (zz46_l3 N (zz46_X3 kX) m) := (funext fun p1 => (funext fun a2 => (funext fun was5 => (funext fun changed6 => zz46_iter3 N kX kO m p1 a2 was5 changed6))))
    refine (zz46_step3 N m kX kO p1 a2 was5 changed6).trans ?_
    rw [(funext fun p1 => (funext fun a2 => (funext fun was5 => (funext fun changed6 => (funext fun t16 => (funext fun t17 => (funext fun t18 => zz46_in6 N m kX kO (zz46_l3 N (zz46_X3 kX) m) hrec p1 a2 was5 changed6 t16 t17 t18)))))))]
    rfl
noncomputable abbrev zz46_K3 (N : Nat) : Ex → St → Option (Bool × (Y4 × Unit)) := (blockK 0 (seqK ((A_zz46).shape 43) (run (A_zz46) N (codeAt Try.f42 [1, 1, 1])) zz46_z))
noncomputable abbrev zz46_k3 (N : Nat) : St → Option (Bool × (Y4 × Unit)) := fun st' => run (A_zz46) N (codeAt Try.f42 [1, 1, 1]) st' zz46_z
theorem zz46_after3 (N : Nat) (p1 : Y4) (was5 : Bool) : zz46_X3 (zz46_k3 N) p1 was5 = zz46_a3 p1 was5 := by kernel_rfl
theorem zz46_in3 (N : Nat) (p1 : Y4) (a2 : Y7) (was5 : Bool) (changed6 : Bool) : zz46_R3 N N (zz46_K3 N) p1 a2 was5 changed6 = zz46_F3 N p1 a2 was5 changed6 :=
  have h : zz46_X3 (zz46_k3 N) = (zz46_a3) := (funext fun p1 => (funext fun was5 => zz46_after3 N p1 was5))
  ((iter_ex (fun st => by kernel_rfl) (fun st => by kernel_rfl)).trans (zz46_iter3 N (zz46_k3 N) (fun j st => (zz46_K3 N) (.exit j) st) N p1 a2 was5 changed6)).trans (congrArg (fun k => zz46_l3 N k N p1 a2 was5 changed6) h)
theorem run0_zz46 (N : Nat) (x : (S_zz46).a.den) : runF (A_zz46) N Try.f42 S_zz46 x = (zz46_s (zz46_R3 N N (zz46_K3 N)) x.1 x.2.1) := by kernel_rfl
theorem run_zz46 (N : Nat) (x : (S_zz46).a.den) : runF (A_zz46) N Try.f42 S_zz46 x = zz46 N x.1 x.2.1 := by
  refine (run0_zz46 N x).trans ?_
  rw [(funext fun p1 => (funext fun a2 => (funext fun was5 => (funext fun changed6 => zz46_in3 N p1 a2 was5 changed6))))]
  rfl
theorem fn_zz46 : FnOk Try.prog 42 := ⟨_, Try.func42, by kernel_rfl, by kernel_rfl⟩
theorem good_zz46 : Gx.Good Try.prog 42 S_zz46 := good_of_run Try.func42 (of_decide_eq_true (by kernel_rfl)) fun x r h => ⟨A_zz46, big, mkCfg_ok tabOk, mkCfg_sigs (show SigsOk Try.prog [(57, S_zz45)] from ⟨⟨fn_zz45, good_zz45⟩, trivial⟩), (run_zz46 big x).trans h⟩

/-! zz47 -/
def zz47_s (a_0 : Y7) (p_1 : Y4) : Option (Bool × Unit) :=
  (zz43 big a_0.1 p_1).bind fun rq1 =>
  cond rq1.1
  ((zz44 p_1).bind fun rq2 =>
  (zz46 big a_0 rq2.1).bind fun rq3 =>
  some (!rq3.1, (())))
  (some (false, (())))
def zz47 (a_0 : Y7) (p_1 : Y4) : Option (Bool × Unit) := zz47_s a_0 p_1
def S_zz47 : Sig := { a := (.pair (.pair I (.pair (.sl (.pair I (.pair (.sl I) .unit))) .unit)) (.pair (.sl I) .unit)), md := [0, 0], mf := [], m := .unit, r := .bool, rf := .i, f := fun x => zz47 x.1 x.2.1 }
def A_zz47 : Cfg := mkCfg tab [(41, S_zz43), (43, S_zz44), (42, S_zz46)] []
theorem run_zz47 (N : Nat) (x : (S_zz47).a.den) : runF (A_zz47) N Try.f25 S_zz47 x = zz47 x.1 x.2.1 := by kernel_rfl
theorem fn_zz47 : FnOk Try.prog 25 := ⟨_, Try.func25, by kernel_rfl, by kernel_rfl⟩
theorem good_zz47 : Gx.Good Try.prog 25 S_zz47 := good_of_run Try.func25 (of_decide_eq_true (by kernel_rfl)) fun x r h => ⟨A_zz47, big, mkCfg_ok tabOk, mkCfg_sigs (show SigsOk Try.prog [(41, S_zz43), (43, S_zz44), (42, S_zz46)] from ⟨⟨fn_zz43, good_zz43⟩, ⟨fn_zz44, good_zz44⟩, ⟨fn_zz46, good_zz46⟩, trivial⟩), (run_zz47 big x).trans h⟩
end Go.Proofs.Yteamfbmkphjcjaa
