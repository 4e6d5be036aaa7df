import Derived.Test.YthmjdallklcbkaaGDp1
set_option maxRecDepth 100000
set_option linter.unusedVariables false
namespace Go.Proofs.Ythmjdallklcbkaa
open Go Go.Gx Go.Proofs

/-! zz36 -/
def zz36_b6 (rec : Y5 → Y4 → Int → Bool → Y4 → Int → Int → Y4 → Int → Int → Option (Int × Unit)) (k : Y5 → Y4 → Int → Bool → Y4 → Int → Int → Option (Int × Unit)) (o0 : Y5) (list1 : Y4) (x6 : Int) (top7 : Bool) (t10 : Y4) (t11 : Int) (t12 : Int) (t16 : Y4) (t17 : Int) (t18 : Int) : Option (Int × Unit) :=
  cond (decide (t18 < t17))
  ((atI t16 t18).bind fun xq2 =>
  cond top7
  ((atI o0 xq2).bind fun xq3 =>
  (atI xq3 x6).bind fun xq4 =>
  rec o0 list1 x6 xq4 t10 t11 t12 t16 t17 (IntKind.i64.wrap (t18 + (1 : Int))))
  (rec o0 list1 x6 false t10 t11 t12 t16 t17 (IntKind.i64.wrap (t18 + (1 : Int)))))
  (k o0 list1 x6 top7 t10 t11 t12)
def zz36_a6 (rec : Y5 → Y4 → Y4 → Int → Int → Option (Int × Unit)) (o0 : Y5) (list1 : Y4) (x6 : Int) (top7 : Bool) (t10 : Y4) (t11 : Int) (t12 : Int) : Option (Int × Unit) :=
  cond top7
  (some (x6, (())))
  (rec o0 list1 t10 t11 (IntKind.i64.wrap (t12 + (1 : Int))))
def zz36_b2 (L6 : Y5 → Y4 → Int → Bool → Y4 → Int → Int → Y4 → Int → Int → Option (Int × Unit)) (k : Option (Int × Unit)) (o0 : Y5) (list1 : Y4) (t10 : Y4) (t11 : Int) (t12 : Int) : Option (Int × Unit) :=
  cond (decide (t12 < t11))
  ((atI t10 t12).bind fun xq1 =>
  L6 o0 list1 xq1 true t10 t11 t12 list1 (list1.length : Int) (0 : Int))
  (k)
def zz36_a2 : Option (Int × Unit) :=
  some ((-1 : Int), (()))
def zz36_s (L2 : Y5 → Y4 → Y4 → Int → Int → Option (Int × Unit)) (o_0 : Y5) (list_1 : Y4) : Option (Int × Unit) :=
  L2 o_0 list_1 list_1 (list_1.length : Int) (0 : Int)
def zz36_l6 (N : Nat) (k : Y5 → Y4 → Int → Bool → Y4 → Int → Int → Option (Int × Unit)) : Nat → Y5 → Y4 → Int → Bool → Y4 → Int → Int → Y4 → Int → Int → Option (Int × Unit)
  | 0, _, _, _, _, _, _, _, _, _, _ => none
  | m + 1, o0, list1, x6, top7, t10, t11, t12, t16, t17, t18 => zz36_b6 (zz36_l6 N k m) k o0 list1 x6 top7 t10 t11 t12 t16 t17 t18
def zz36_F6 (N : Nat) (rec : Y5 → Y4 → Y4 → Int → Int → Option (Int × Unit)) (k : Option (Int × Unit)) (o0 : Y5) (list1 : Y4) (x6 : Int) (top7 : Bool) (t10 : Y4) (t11 : Int) (t12 : Int) (t16 : Y4) (t17 : Int) (t18 : Int) : Option (Int × Unit) := zz36_l6 N (zz36_a6 rec) N o0 list1 x6 top7 t10 t11 t12 t16 t17 t18
def zz36_l2 (N : Nat) (k : Option (Int × Unit)) : Nat → Y5 → Y4 → Y4 → Int → Int → Option (Int × Unit)
  | 0, _, _, _, _, _ => none
  | m + 1, o0, list1, t10, t11, t12 => zz36_b2 (zz36_F6 N (zz36_l2 N k m) k) k o0 list1 t10 t11 t12
def zz36_F2 (N : Nat) (o0 : Y5) (list1 : Y4) (t10 : Y4) (t11 : Int) (t12 : Int) : Option (Int × Unit) := zz36_l2 N (zz36_a2) N o0 list1 t10 t11 t12
def zz36 (N : Nat) (o_0 : Y5) (list_1 : Y4) : Option (Int × Unit) := zz36_s (zz36_F2 N) o_0 list_1
def S_zz36 : Sig := { a := (.pair (.sl (.sl .bool)) (.pair (.sl I) .unit)), md := [0, 0], mf := [], m := .unit, r := I, rf := .i, f := fun x => zz36 big x.1 x.2.1 }
def A_zz36 : Cfg := mkCfg tab [] [(4, [.as (.sl (.sl .bool)) .i, .as (.sl I) .i, .drop, .drop, .drop, .drop, .drop, .drop, .drop, .drop, .as (.sl I) .i, .as I .i, .as I .i]), (12, [.as (.sl (.sl .bool)) .i, .as (.sl I) .i, .drop, .drop, .drop, .drop, .as I .i, .as .bool .i, .drop, .drop, .as (.sl I) .i, .as I .i, .as I .i, .drop, .drop, .drop, .as (.sl I) .i, .as I .i, .as I .i]), (27, []), (21, [.as (.sl (.sl .bool)) .i, .as (.sl I) .i, .drop, .drop, .drop, .drop, .as I .i, .as .bool .i, .drop, .drop, .as (.sl I) .i, .as I .i, .as I .i])]
noncomputable def zz36_R2 (N n : Nat) (K : Ex → St → Option (Int × Unit)) (o0 : Y5) (list1 : Y4) (t10 : Y4) (t11 : Int) (t12 : Int) : Option (Int × Unit) := iter ((A_zz36).shape 4) (run (A_zz36) N (codeAt Try.f205 [1, 0, 1, 0, 0])) n ([.val (.sl (.sl .bool)) .i o0, .val (.sl I) .i list1, .u, .u, .u, .u, .u, .u, .u, .u, .val (.sl I) .i t10, .val I .i t11, .val I .i t12] ++ List.replicate 23 .u) K
noncomputable def zz36_R6 (N n : Nat) (K : Ex → St → Option (Int × Unit)) (o0 : Y5) (list1 : Y4) (x6 : Int) (top7 : Bool) (t10 : Y4) (t11 : Int) (t12 : Int) (t16 : Y4) (t17 : Int) (t18 : Int) : Option (Int × Unit) := iter ((A_zz36).shape 12) (run (A_zz36) N (codeAt Try.f205 [1, 0, 1, 0, 0, 1, 1, 0, 0, 1, 1, 0, 1, 0, 0])) n ([.val (.sl (.sl .bool)) .i o0, .val (.sl I) .i list1, .u, .u, .u, .u, .val I .i x6, .val .bool .i top7, .u, .u, .val (.sl I) .i t10, .val I .i t11, .val I .i t12, .u, .u, .u, .val (.sl I) .i t16, .val I .i t17, .val I .i t18] ++ List.replicate 17 .u) K
noncomputable abbrev zz36_z : Ex → St → Option (Int × Unit) := finish (A_zz36) S_zz36 Try.f205.results.toList
noncomputable abbrev zz36_X2 (kX : St → Option (Int × Unit)) : Option (Int × Unit) := kX ([] ++ List.replicate 36 .u)
noncomputable abbrev zz36_E2 (kX : St → Option (Int × Unit)) (kO : Nat → St → Option (Int × Unit)) : Ex → St → Option (Int × Unit) := exK zz36_z 0 ((A_zz36).shape 27) kX kO
noncomputable abbrev zz36_X6 (kX : St → Option (Int × Unit)) : Y5 → Y4 → Int → Bool → Y4 → Int → Int → Option (Int × Unit) := fun (o0 : Y5) (list1 : Y4) (x6 : Int) (top7 : Bool) (t10 : Y4) (t11 : Int) (t12 : Int) => kX ([.val (.sl (.sl .bool)) .i o0, .val (.sl I) .i list1, .u, .u, .u, .u, .val I .i x6, .val .bool .i top7, .u, .u, .val (.sl I) .i t10, .val I .i t11, .val I .i t12] ++ List.replicate 23 .u)
noncomputable abbrev zz36_E6 (kX : St → Option (Int × Unit)) (kO : Nat → St → Option (Int × Unit)) : Ex → St → Option (Int × Unit) := exK zz36_z 2 ((A_zz36).shape 21) kX kO
theorem zz36_step6 (N : Nat) (m : Nat) (kX : St → Option (Int × Unit)) (kO : Nat → St → Option (Int × Unit)) (o0 : Y5) (list1 : Y4) (x6 : Int) (top7 : Bool) (t10 : Y4) (t11 : Int) (t12 : Int) (t16 : Y4) (t17 : Int) (t18 : Int) : zz36_R6 N (m + 1) (zz36_E6 kX kO) o0 list1 x6 top7 t10 t11 t12 t16 t17 t18 = zz36_b6 (zz36_R6 N m (zz36_E6 kX kO)) (zz36_X6 kX) o0 list1 x6 top7 t10 t11 t12 t16 t17 t18 := by kernel_rfl
theorem zz36_iter6 (N : Nat) (kX : St → Option (Int × Unit)) (kO : Nat → St → Option (Int × Unit)) : ∀ (n : Nat) (o0 : Y5) (list1 : Y4) (x6 : Int) (top7 : Bool) (t10 : Y4) (t11 : Int) (t12 : Int) (t16 : Y4) (t17 : Int) (t18 : Int), zz36_R6 N n (zz36_E6 kX kO) o0 list1 x6 top7 t10 t11 t12 t16 t17 t18 = zz36_l6 N (zz36_X6 kX) n o0 list1 x6 top7 t10 t11 t12 t16 t17 t18
  | 0, _, _, _, _, _, _, _, _, _, _ => rfl
  | m + 1, o0, list1, x6, top7, t10, t11, t12, t16, t17, t18 => by
    have hrec : zz36_R6 N m (zz36_E6 kX kO) = (zz36_l6 N (zz36_X6 kX) m) := (funext fun o0 => (funext fun list1 => (funext fun x6 => (funext fun top7 => (funext fun t10 => (funext fun t11 => (funext fun t12 => (funext fun t16 => (funext fun t17 => (funext fun t18 => zz36_iter6 N kX kO m o0 list1 x6 top7 t10 t11 t12 t16 t17 t18))))))))))
    refine (zz36_step6 N m kX kO o0 list1 x6 top7 t10 t11 t12 t16 t17 t18).trans ?_
    rw [hrec]
    rfl
noncomputable abbrev zz36_K6 (N : Nat) (m : Nat) (kX : St → Option (Int × Unit)) (kO : Nat → St → Option (Int × Unit)) : Ex → St → Option (Int × Unit) := (blockK 2 (seqK ((A_zz36).shape 21) (run (A_zz36) N (codeAt Try.f205 [1, 0, 1, 0, 0, 1, 1, 0, 0, 1, 1, 1])) (blockK 1 (seqK ((A_zz36).shape 25) (run (A_zz36) N (codeAt Try.f205 [1, 0, 1, 0, 0, 1, 1, 1])) (iterK ((A_zz36).shape 4) (run (A_zz36) N (codeAt Try.f205 [1, 0, 1, 0, 0])) m (zz36_E2 kX kO))))))
noncomputable abbrev zz36_k6 (N : Nat) (m : Nat) (kX : St → Option (Int × Unit)) (kO : Nat → St → Option (Int × Unit)) : St → Option (Int × Unit) := fun st' => run (A_zz36) N (codeAt Try.f205 [1, 0, 1, 0, 0, 1, 1, 0, 0, 1, 1, 1]) st' (blockK 1 (seqK ((A_zz36).shape 25) (run (A_zz36) N (codeAt Try.f205 [1, 0, 1, 0, 0, 1, 1, 1])) (iterK ((A_zz36).shape 4) (run (A_zz36) N (codeAt Try.f205 [1, 0, 1, 0, 0])) m (zz36_E2 kX kO))))
theorem zz36_after6 (N : Nat) (m : Nat) (kX : St → Option (Int × Unit)) (kO : Nat → St → Option (Int × Unit)) (o0 : Y5) (list1 : Y4) (x6 : Int) (top7 : Bool) (t10 : Y4) (t11 : Int) (t12 : Int) : zz36_X6 (zz36_k6 N m kX kO) o0 list1 x6 top7 t10 t11 t12 = zz36_a6 (zz36_R2 N m (zz36_E2 kX kO)) o0 list1 x6 top7 t10 t11 t12 := by kernel_rfl
theorem zz36_in6 (N : Nat) (m : Nat) (kX : St → Option (Int × Unit)) (kO : Nat → St → Option (Int × Unit)) (recF : Y5 → Y4 → Y4 → Int → Int → Option (Int × Unit)) (hrec : zz36_R2 N m (zz36_E2 kX kO) = recF) (o0 : Y5) (list1 : Y4) (x6 : Int) (top7 : Bool) (t10 : Y4) (t11 : Int) (t12 : Int) (t16 : Y4) (t17 : Int) (t18 : Int) : zz36_R6 N N (zz36_K6 N m kX kO) o0 list1 x6 top7 t10 t11 t12 t16 t17 t18 = zz36_F6 N recF (zz36_X2 kX) o0 list1 x6 top7 t10 t11 t12 t16 t17 t18 :=
  have h : zz36_X6 (zz36_k6 N m kX kO) = (zz36_a6 recF) := (funext fun o0 => (funext fun list1 => (funext fun x6 => (funext fun top7 => (funext fun t10 => (funext fun t11 => (funext fun t12 => (zz36_after6 N m kX kO o0 list1 x6 top7 t10 t11 t12).trans (by rw [hrec]))))))))
  ((iter_ex (fun st => by kernel_rfl) (fun st => by kernel_rfl)).trans (zz36_iter6 N (zz36_k6 N m kX kO) (fun j st => (zz36_K6 N m kX kO) (.exit j) st) N o0 list1 x6 top7 t10 t11 t12 t16 t17 t18)).trans (congrArg (fun k => zz36_l6 N k N o0 list1 x6 top7 t10 t11 t12 t16 t17 t18) h)
theorem zz36_step2 (N : Nat) (m : Nat) (kX : St → Option (Int × Unit)) (kO : Nat → St → Option (Int × Unit)) (o0 : Y5) (list1 : Y4) (t10 : Y4) (t11 : Int) (t12 : Int) : zz36_R2 N (m + 1) (zz36_E2 kX kO) o0 list1 t10 t11 t12 = zz36_b2 (zz36_R6 N N (zz36_K6 N m kX kO)) (zz36_X2 kX) o0 list1 t10 t11 t12 := by kernel_rfl
theorem zz36_iter2 (N : Nat) (kX : St → Option (Int × Unit)) (kO : Nat → St → Option (Int × Unit)) : ∀ (n : Nat) (o0 : Y5) (list1 : Y4) (t10 : Y4) (t11 : Int) (t12 : Int), zz36_R2 N n (zz36_E2 kX kO) o0 list1 t10 t11 t12 = zz36_l2 N (zz36_X2 kX) n o0 list1 t10 t11 t12
  | 0, _, _, _, _, _ => rfl
  | m + 1, o0, list1, t10, t11, t12 => by
    have hrec : zz36_R2 N m (zz36_E2 kX kO) = (zz36_l2 N (zz36_X2 kX) m) := (funext fun o0 => (funext fun list1 => (funext fun t10 => (funext fun t11 => (funext fun t12 => zz36_iter2 N kX kO m o0 list1 t10 t11 t12)))))
    refine (zz36_step2 N m kX kO o0 list1 t10 t11 t12).trans ?_
    rw [(funext fun o0 => (funext fun list1 => (funext fun x6 => (funext fun top7 => (funext fun t10 => (funext fun t11 => (funext fun t12 => (funext fun t16 => (funext fun t17 => (funext fun t18 => zz36_in6 N m kX kO (zz36_l2 N (zz36_X2 kX) m) hrec o0 list1 x6 top7 t10 t11 t12 t16 t17 t18))))))))))]
    rfl
noncomputable abbrev zz36_K2 (N : Nat) : Ex → St → Option (Int × Unit) := (blockK 0 (seqK ((A_zz36).shape 27) (run (A_zz36) N (codeAt Try.f205 [1, 1])) zz36_z))
noncomputable abbrev zz36_k2 (N : Nat) : St → Option (Int × Unit) := fun st' => run (A_zz36) N (codeAt Try.f205 [1, 1]) st' zz36_z
theorem zz36_after2 (N : Nat) : zz36_X2 (zz36_k2 N) = zz36_a2 := by kernel_rfl
theorem zz36_in2 (N : Nat) (o0 : Y5) (list1 : Y4) (t10 : Y4) (t11 : Int) (t12 : Int) : zz36_R2 N N (zz36_K2 N) o0 list1 t10 t11 t12 = zz36_F2 N o0 list1 t10 t11 t12 :=
  have h : zz36_X2 (zz36_k2 N) = (zz36_a2) := zz36_after2 N
  ((iter_ex (fun st => by kernel_rfl) (fun st => by kernel_rfl)).trans (zz36_iter2 N (zz36_k2 N) (fun j st => (zz36_K2 N) (.exit j) st) N o0 list1 t10 t11 t12)).trans (congrArg (fun k => zz36_l2 N k N o0 list1 t10 t11 t12) h)
theorem run0_zz36 (N : Nat) (x : (S_zz36).a.den) : runF (A_zz36) N Try.f205 S_zz36 x = (zz36_s (zz36_R2 N N (zz36_K2 N)) x.1 x.2.1) := by kernel_rfl
theorem run_zz36 (N : Nat) (x : (S_zz36).a.den) : runF (A_zz36) N Try.f205 S_zz36 x = zz36 N x.1 x.2.1 := by
  refine (run0_zz36 N x).trans ?_
  rw [(funext fun o0 => (funext fun list1 => (funext fun t10 => (funext fun t11 => (funext fun t12 => zz36_in2 N o0 list1 t10 t11 t12)))))]
  rfl
theorem fn_zz36 : FnOk Try.prog 205 := ⟨_, Try.func205, by kernel_rfl, by kernel_rfl⟩
theorem good_zz36 : Gx.Good Try.prog 205 S_zz36 := good_of_run Try.func205 (of_decide_eq_true (by kernel_rfl)) fun x r h => ⟨A_zz36, big, mkCfg_ok tabOk, mkCfg_sigs (show SigsOk Try.prog [] from trivial), (run_zz36 big x).trans h⟩

/-! zz37 -/
def zz37_s (z_0 : Int) (p_1 : Y5) (p_2 : Int) (p_3 : Int) : Option (Bool × Unit) :=
  (atI p_1 z_0).bind fun xq1 =>
  (atI xq1 p_2).bind fun xq2 =>
  cond xq2
  ((atI p_1 z_0).bind fun xq3 =>
  (atI xq3 p_3).bind fun xq4 =>
  some (xq4, (())))
  (some (false, (())))
def zz37 (z_0 : Int) (p_1 : Y5) (p_2 : Int) (p_3 : Int) : Option (Bool × Unit) := zz37_s z_0 p_1 p_2 p_3
def S_zz37 : Sig := { a := (.pair I (.pair (.ptr (.sl (.sl .bool))) (.pair (.ptr I) (.pair (.ptr I) .unit)))), md := [0, 0, 0, 0], mf := [], m := .unit, r := .bool, rf := .i, f := fun x => zz37 x.1 x.2.1 x.2.2.1 x.2.2.2.1 }
def A_zz37 : Cfg := mkCfg tab [] []
theorem run_zz37 (N : Nat) (x : (S_zz37).a.den) : runF (A_zz37) N Try.f206 S_zz37 x = zz37 x.1 x.2.1 x.2.2.1 x.2.2.2.1 := by kernel_rfl
theorem fn_zz37 : FnOk Try.prog 206 := ⟨_, Try.func206, by kernel_rfl, by kernel_rfl⟩
theorem good_zz37 : Gx.Good Try.prog 206 S_zz37 := good_of_run Try.func206 (of_decide_eq_true (by kernel_rfl)) fun x r h => ⟨A_zz37, big, mkCfg_ok tabOk, mkCfg_sigs (show SigsOk Try.prog [] from trivial), (run_zz37 big x).trans h⟩

/-! zz38 -/
def zz38_b3 (rec : (Y5 × (Int × (Int × Unit))) → Y4 → Int → Int → Option (Y4 × Unit)) (k : Y4 → Option (Y4 × Unit)) (so1 : (Y5 × (Int × (Int × Unit)))) (list5 : Y4) (t9 : Int) (t10 : Int) : Option (Y4 × Unit) :=
  cond (decide (t10 < t9))
  ((zz37 t10 so1.1 so1.2.1 so1.2.2.1).bind fun rq1 =>
  cond rq1.1
  ((appI list5 [t10]).bind fun xq2 =>
  rec so1 xq2 t9 (IntKind.i64.wrap (t10 + (1 : Int))))
  (rec so1 list5 t9 (IntKind.i64.wrap (t10 + (1 : Int)))))
  (k list5)
def zz38_a3 (list5 : Y4) : Option (Y4 × Unit) :=
  some (list5, (()))
def zz38_s (L3 : (Y5 × (Int × (Int × Unit))) → Y4 → Int → Int → Option (Y4 × Unit)) (o_0 : Y5) (so_1 : (Y5 × (Int × (Int × Unit)))) : Option (Y4 × Unit) :=
  L3 so_1 [] (o_0.length : Int) (0 : Int)
def zz38_l3 (N : Nat) (k : Y4 → Option (Y4 × Unit)) : Nat → (Y5 × (Int × (Int × Unit))) → Y4 → Int → Int → Option (Y4 × Unit)
  | 0, _, _, _, _ => none
  | m + 1, so1, list5, t9, t10 => zz38_b3 (zz38_l3 N k m) k so1 list5 t9 t10
def zz38_F3 (N : Nat) (so1 : (Y5 × (Int × (Int × Unit)))) (list5 : Y4) (t9 : Int) (t10 : Int) : Option (Y4 × Unit) := zz38_l3 N (zz38_a3) N so1 list5 t9 t10
def zz38 (N : Nat) (o_0 : Y5) (so_1 : (Y5 × (Int × (Int × Unit)))) : Option (Y4 × Unit) := zz38_s (zz38_F3 N) o_0 so_1
def S_zz38 : Sig := { a := (.pair (.sl (.sl .bool)) (.pair (.clo 206 0 (.pair (.ptr (.sl (.sl .bool))) (.pair (.ptr I) (.pair (.ptr I) .unit)))) .unit)), md := [0, 0], mf := [], m := .unit, r := (.sl I), rf := (.o .i), f := fun x => zz38 big x.1 x.2.1 }
def A_zz38 : Cfg := mkCfg tab [(206, S_zz37)] [(6, [.drop, .as (.clo 206 0 (.pair (.ptr (.sl (.sl .bool))) (.pair (.ptr I) (.pair (.ptr I) .unit)))) .i, .drop, .drop, .drop, .as (.sl I) (.o .i), .drop, .drop, .drop, .as I .i, .as I .i]), (17, [.drop, .drop, .drop, .drop, .drop, .as (.sl I) (.o .i)])]
noncomputable def zz38_R3 (N n : Nat) (K : Ex → St → Option (Y4 × Unit)) (so1 : (Y5 × (Int × (Int × Unit)))) (list5 : Y4) (t9 : Int) (t10 : Int) : Option (Y4 × Unit) := iter ((A_zz38).shape 6) (run (A_zz38) N (codeAt Try.f169 [1, 1, 0, 1, 0, 0])) n ([.u, .val (.clo 206 0 (.pair (.ptr (.sl (.sl .bool))) (.pair (.ptr I) (.pair (.ptr I) .unit)))) .i so1, .u, .u, .u, .val (.sl I) (.o .i) list5, .u, .u, .u, .val I .i t9, .val I .i t10] ++ List.replicate 11 .u) K
noncomputable abbrev zz38_z : Ex → St → Option (Y4 × Unit) := finish (A_zz38) S_zz38 Try.f169.results.toList
noncomputable abbrev zz38_X3 (kX : St → Option (Y4 × Unit)) : Y4 → Option (Y4 × Unit) := fun (list5 : Y4) => kX ([.u, .u, .u, .u, .u, .val (.sl I) (.o .i) list5] ++ List.replicate 16 .u)
noncomputable abbrev zz38_E3 (kX : St → Option (Y4 × Unit)) (kO : Nat → St → Option (Y4 × Unit)) : Ex → St → Option (Y4 × Unit) := exK zz38_z 0 ((A_zz38).shape 17) kX kO
theorem zz38_step3 (N : Nat) (m : Nat) (kX : St → Option (Y4 × Unit)) (kO : Nat → St → Option (Y4 × Unit)) (so1 : (Y5 × (Int × (Int × Unit)))) (list5 : Y4) (t9 : Int) (t10 : Int) : zz38_R3 N (m + 1) (zz38_E3 kX kO) so1 list5 t9 t10 = zz38_b3 (zz38_R3 N m (zz38_E3 kX kO)) (zz38_X3 kX) so1 list5 t9 t10 := by kernel_rfl
theorem zz38_iter3 (N : Nat) (kX : St → Option (Y4 × Unit)) (kO : Nat → St → Option (Y4 × Unit)) : ∀ (n : Nat) (so1 : (Y5 × (Int × (Int × Unit)))) (list5 : Y4) (t9 : Int) (t10 : Int), zz38_R3 N n (zz38_E3 kX kO) so1 list5 t9 t10 = zz38_l3 N (zz38_X3 kX) n so1 list5 t9 t10
  | 0, _, _, _, _ => rfl
  | m + 1, so1, list5, t9, t10 => by
    have hrec : zz38_R3 N m (zz38_E3 kX kO) = (zz38_l3 N (zz38_X3 kX) m) := (funext fun so1 => (funext fun list5 => (funext fun t9 => (funext fun t10 => zz38_iter3 N kX kO m so1 list5 t9 t10))))
    refine (zz38_step3 N m kX kO so1 list5 t9 t10).trans ?_
    rw [hrec]
    rfl
noncomputable abbrev zz38_K3 (N : Nat) : Ex → St → Option (Y4 × Unit) := (blockK 0 (seqK ((A_zz38).shape 17) (run (A_zz38) N (codeAt Try.f169 [1, 1, 1])) zz38_z))
noncomputable abbrev zz38_k3 (N : Nat) : St → Option (Y4 × Unit) := fun st' => run (A_zz38) N (codeAt Try.f169 [1, 1, 1]) st' zz38_z
theorem zz38_after3 (N : Nat) (list5 : Y4) : zz38_X3 (zz38_k3 N) list5 = zz38_a3 list5 := by kernel_rfl
theorem zz38_in3 (N : Nat) (so1 : (Y5 × (Int × (Int × Unit)))) (list5 : Y4) (t9 : Int) (t10 : Int) : zz38_R3 N N (zz38_K3 N) so1 list5 t9 t10 = zz38_F3 N so1 list5 t9 t10 :=
  have h : zz38_X3 (zz38_k3 N) = (zz38_a3) := (funext fun list5 => zz38_after3 N list5)
  ((iter_ex (fun st => by kernel_rfl) (fun st => by kernel_rfl)).trans (zz38_iter3 N (zz38_k3 N) (fun j st => (zz38_K3 N) (.exit j) st) N so1 list5 t9 t10)).trans (congrArg (fun k => zz38_l3 N k N so1 list5 t9 t10) h)
theorem run0_zz38 (N : Nat) (x : (S_zz38).a.den) : runF (A_zz38) N Try.f169 S_zz38 x = (zz38_s (zz38_R3 N N (zz38_K3 N)) x.1 x.2.1) := by kernel_rfl
theorem run_zz38 (N : Nat) (x : (S_zz38).a.den) : runF (A_zz38) N Try.f169 S_zz38 x = zz38 N x.1 x.2.1 := by
  refine (run0_zz38 N x).trans ?_
  rw [(funext fun so1 => (funext fun list5 => (funext fun t9 => (funext fun t10 => zz38_in3 N so1 list5 t9 t10))))]
  rfl
theorem fn_zz38 : FnOk Try.prog 169 := ⟨_, Try.func169, by kernel_rfl, by kernel_rfl⟩
theorem good_zz38 : Gx.Good Try.prog 169 S_zz38 := good_of_run Try.func169 (of_decide_eq_true (by kernel_rfl)) fun x r h => ⟨A_zz38, big, mkCfg_ok tabOk, mkCfg_sigs (show SigsOk Try.prog [(206, S_zz37)] from ⟨⟨fn_zz37, good_zz37⟩, trivial⟩), (run_zz38 big x).trans h⟩

/-! zz39 -/
def zz39_b7 (rec : Y5 → Y3 → Int → Y4 → Int → Int → Int → Int → Option ((Y3 × (Bool × Unit)) × Unit)) (k : Y5 → Y3 → Y4 → Int → Int → Option ((Y3 × (Bool × Unit)) × Unit)) (o1 : Y5) (table4 : Y3) (x5 : Int) (row6 : Y4) (t11 : Int) (t12 : Int) (t17 : Int) (t18 : Int) : Option ((Y3 × (Bool × Unit)) × Unit) :=
  cond (decide (t18 < t17))
  ((zz38 big o1 (o1, x5, t18, ())).bind fun rq1 =>
  (zz36 big o1 rq1.1).bind fun rq2 =>
  cond (decide (rq2.1 < (0 : Int)))
  (some (([], false, ()), (())))
  ((appI row6 [rq2.1]).bind fun xq3 =>
  rec o1 table4 x5 xq3 t11 t12 t17 (IntKind.i64.wrap (t18 + (1 : Int)))))
  (k o1 table4 row6 t11 t12)
def zz39_a7 (rec : Y5 → Y3 → Int → Int → Option ((Y3 × (Bool × Unit)) × Unit)) (o1 : Y5) (table4 : Y3) (row6 : Y4) (t11 : Int) (t12 : Int) : Option ((Y3 × (Bool × Unit)) × Unit) :=
  (appI table4 [row6]).bind fun xq4 =>
  rec o1 xq4 t11 (IntKind.i64.wrap (t12 + (1 : Int)))
def zz39_b3 (L7 : Y5 → Y3 → Int → Y4 → Int → Int → Int → Int → Option ((Y3 × (Bool × Unit)) × Unit)) (k : Y3 → Option ((Y3 × (Bool × Unit)) × Unit)) (o1 : Y5) (table4 : Y3) (t11 : Int) (t12 : Int) : Option ((Y3 × (Bool × Unit)) × Unit) :=
  cond (decide (t12 < t11))
  (L7 o1 table4 t12 [] t11 t12 (o1.length : Int) (0 : Int))
  (k table4)
def zz39_a3 (table4 : Y3) : Option ((Y3 × (Bool × Unit)) × Unit) :=
  some ((table4, true, ()), (()))
def zz39_s (L3 : Y5 → Y3 → Int → Int → Option ((Y3 × (Bool × Unit)) × Unit)) (o_0 : Y5) : Option ((Y3 × (Bool × Unit)) × Unit) :=
  L3 o_0 [] (o_0.length : Int) (0 : Int)
def zz39_l7 (N : Nat) (k : Y5 → Y3 → Y4 → Int → Int → Option ((Y3 × (Bool × Unit)) × Unit)) : Nat → Y5 → Y3 → Int → Y4 → Int → Int → Int → Int → Option ((Y3 × (Bool × Unit)) × Unit)
  | 0, _, _, _, _, _, _, _, _ => none
  | m + 1, o1, table4, x5, row6, t11, t12, t17, t18 => zz39_b7 (zz39_l7 N k m) k o1 table4 x5 row6 t11 t12 t17 t18
def zz39_F7 (N : Nat) (rec : Y5 → Y3 → Int → Int → Option ((Y3 × (Bool × Unit)) × Unit)) (k : Y3 → Option ((Y3 × (Bool × Unit)) × Unit)) (o1 : Y5) (table4 : Y3) (x5 : Int) (row6 : Y4) (t11 : Int) (t12 : Int) (t17 : Int) (t18 : Int) : Option ((Y3 × (Bool × Unit)) × Unit) := zz39_l7 N (zz39_a7 rec) N o1 table4 x5 row6 t11 t12 t17 t18
def zz39_l3 (N : Nat) (k : Y3 → Option ((Y3 × (Bool × Unit)) × Unit)) : Nat → Y5 → Y3 → Int → Int → Option ((Y3 × (Bool × Unit)) × Unit)
  | 0, _, _, _, _ => none
  | m + 1, o1, table4, t11, t12 => zz39_b3 (zz39_F7 N (zz39_l3 N k m) k) k o1 table4 t11 t12
def zz39_F3 (N : Nat) (o1 : Y5) (table4 : Y3) (t11 : Int) (t12 : Int) : Option ((Y3 × (Bool × Unit)) × Unit) := zz39_l3 N (zz39_a3) N o1 table4 t11 t12
def zz39 (N : Nat) (o_0 : Y5) : Option ((Y3 × (Bool × Unit)) × Unit) := zz39_s (zz39_F3 N) o_0
def S_zz39 : Sig := { a := (.pair (.sl (.sl .bool)) .unit), md := [0], mf := [], m := .unit, r := (.tup (.pair (.sl (.sl I)) (.pair .bool .unit))), rf := (.p (.o (.o .i)) .i), f := fun x => zz39 big x.1 }
def A_zz39 : Cfg := mkCfg tab [(169, S_zz38), (205, S_zz36)] [(6, [.drop, .as (.ptr (.sl (.sl .bool))) .i, .drop, .drop, .as (.sl (.sl I)) (.o (.o .i)), .drop, .drop, .drop, .drop, .drop, .drop, .as I .i, .as I .i]), (14, [.drop, .as (.ptr (.sl (.sl .bool))) .i, .drop, .drop, .as (.sl (.sl I)) (.o (.o .i)), .as (.ptr I) .i, .as (.sl I) (.o .i), .drop, .drop, .drop, .drop, .as I .i, .as I .i, .drop, .drop, .drop, .drop, .as I .i, .as I .i]), (33, [.drop, .drop, .drop, .drop, .as (.sl (.sl I)) (.o (.o .i))]), (19, [.drop, .as (.ptr (.sl (.sl .bool))) .i, .drop, .drop, .as (.sl (.sl I)) (.o (.o .i)), .as (.ptr I) .i, .as (.sl I) (.o .i), .as (.ptr I) .i, .drop, .drop, .drop, .as I .i, .as I .i, .drop, .drop, .drop, .drop, .as I .i, .as I .i]), (29, [.drop, .as (.ptr (.sl (.sl .bool))) .i, .drop, .drop, .as (.sl (.sl I)) (.o (.o .i)), .drop, .as (.sl I) (.o .i), .drop, .drop, .drop, .drop, .as I .i, .as I .i])]
noncomputable def zz39_R3 (N n : Nat) (K : Ex → St → Option ((Y3 × (Bool × Unit)) × Unit)) (o1 : Y5) (table4 : Y3) (t11 : Int) (t12 : Int) : Option ((Y3 × (Bool × Unit)) × Unit) := iter ((A_zz39).shape 6) (run (A_zz39) N (codeAt Try.f190 [1, 1, 0, 1, 0, 0])) n ([.u, .val (.ptr (.sl (.sl .bool))) .i o1, .u, .u, .val (.sl (.sl I)) (.o (.o .i)) table4, .u, .u, .u, .u, .u, .u, .val I .i t11, .val I .i t12] ++ List.replicate 26 .u) K
noncomputable def zz39_R7 (N n : Nat) (K : Ex → St → Option ((Y3 × (Bool × Unit)) × Unit)) (o1 : Y5) (table4 : Y3) (x5 : Int) (row6 : Y4) (t11 : Int) (t12 : Int) (t17 : Int) (t18 : Int) : Option ((Y3 × (Bool × Unit)) × Unit) := iter ((A_zz39).shape 14) (run (A_zz39) N (codeAt Try.f190 [1, 1, 0, 1, 0, 0, 1, 1, 0, 0, 1, 1, 0, 1, 0, 0])) n ([.u, .val (.ptr (.sl (.sl .bool))) .i o1, .u, .u, .val (.sl (.sl I)) (.o (.o .i)) table4, .val (.ptr I) .i x5, .val (.sl I) (.o .i) row6, .u, .u, .u, .u, .val I .i t11, .val I .i t12, .u, .u, .u, .u, .val I .i t17, .val I .i t18] ++ List.replicate 20 .u) K
noncomputable abbrev zz39_z : Ex → St → Option ((Y3 × (Bool × Unit)) × Unit) := finish (A_zz39) S_zz39 Try.f190.results.toList
noncomputable abbrev zz39_X3 (kX : St → Option ((Y3 × (Bool × Unit)) × Unit)) : Y3 → Option ((Y3 × (Bool × Unit)) × Unit) := fun (table4 : Y3) => kX ([.u, .u, .u, .u, .val (.sl (.sl I)) (.o (.o .i)) table4] ++ List.replicate 34 .u)
noncomputable abbrev zz39_E3 (kX : St → Option ((Y3 × (Bool × Unit)) × Unit)) (kO : Nat → St → Option ((Y3 × (Bool × Unit)) × Unit)) : Ex → St → Option ((Y3 × (Bool × Unit)) × Unit) := exK zz39_z 0 ((A_zz39).shape 33) kX kO
noncomputable abbrev zz39_X7 (kX : St → Option ((Y3 × (Bool × Unit)) × Unit)) : Y5 → Y3 → Y4 → Int → Int → Option ((Y3 × (Bool × Unit)) × Unit) := fun (o1 : Y5) (table4 : Y3) (row6 : Y4) (t11 : Int) (t12 : Int) => kX ([.u, .val (.ptr (.sl (.sl .bool))) .i o1, .u, .u, .val (.sl (.sl I)) (.o (.o .i)) table4, .u, .val (.sl I) (.o .i) row6, .u, .u, .u, .u, .val I .i t11, .val I .i t12] ++ List.replicate 26 .u)
noncomputable abbrev zz39_E7 (kX : St → Option ((Y3 × (Bool × Unit)) × Unit)) (kO : Nat → St → Option ((Y3 × (Bool × Unit)) × Unit)) : Ex → St → Option ((Y3 × (Bool × Unit)) × Unit) := exK zz39_z 2 ((A_zz39).shape 29) kX kO
theorem zz39_step7 (N : Nat) (m : Nat) (kX : St → Option ((Y3 × (Bool × Unit)) × Unit)) (kO : Nat → St → Option ((Y3 × (Bool × Unit)) × Unit)) (o1 : Y5) (table4 : Y3) (x5 : Int) (row6 : Y4) (t11 : Int) (t12 : Int) (t17 : Int) (t18 : Int) : zz39_R7 N (m + 1) (zz39_E7 kX kO) o1 table4 x5 row6 t11 t12 t17 t18 = zz39_b7 (zz39_R7 N m (zz39_E7 kX kO)) (zz39_X7 kX) o1 table4 x5 row6 t11 t12 t17 t18 := by kernel_rfl
theorem zz39_iter7 (N : Nat) (kX : St → Option ((Y3 × (Bool × Unit)) × Unit)) (kO : Nat → St → Option ((Y3 × (Bool × Unit)) × Unit)) : ∀ (n : Nat) (o1 : Y5) (table4 : Y3) (x5 : Int) (row6 : Y4) (t11 : Int) (t12 : Int) (t17 : Int) (t18 : Int), zz39_R7 N n (zz39_E7 kX kO) o1 table4 x5 row6 t11 t12 t17 t18 = zz39_l7 N (zz39_X7 kX) n o1 table4 x5 row6 t11 t12 t17 t18
  | 0, _, _, _, _, _, _, _, _ => rfl
  | m + 1, o1, table4, x5, row6, t11, t12, t17, t18 => by
    have hrec : zz39_R7 N m (zz39_E7 kX kO) = (zz39_l7 N (zz39_X7 kX) m) := (funext fun o1 => (funext fun table4 => (funext fun x5 => (funext fun row6 => (funext fun t11 => (funext fun t12 => (funext fun t17 => (funext fun t18 => zz39_iter7 N kX kO m o1 table4 x5 row6 t11 t12 t17 t18))))))))
    refine (zz39_step7 N m kX kO o1 table4 x5 row6 t11 t12 t17 t18).trans ?_
    rw [hrec]
    rfl
noncomputable abbrev zz39_K7 (N : Nat) (m : Nat) (kX : St → Option ((Y3 × (Bool × Unit)) × Unit)) (kO : Nat → St → Option ((Y3 × (Bool × Unit)) × Unit)) : Ex → St → Option ((Y3 × (Bool × Unit)) × Unit) := (blockK 2 (seqK ((A_zz39).shape 29) (run (A_zz39) N (codeAt Try.f190 [1, 1, 0, 1, 0, 0, 1, 1, 0, 0, 1, 1, 1])) (blockK 1 (seqK ((A_zz39).shape 31) (run (A_zz39) N (codeAt Try.f190 [1, 1, 0, 1, 0, 0, 1, 1, 1])) (iterK ((A_zz39).shape 6) (run (A_zz39) N (codeAt Try.f190 [1, 1, 0, 1, 0, 0])) m (zz39_E3 kX kO))))))
noncomputable abbrev zz39_k7 (N : Nat) (m : Nat) (kX : St → Option ((Y3 × (Bool × Unit)) × Unit)) (kO : Nat → St → Option ((Y3 × (Bool × Unit)) × Unit)) : St → Option ((Y3 × (Bool × Unit)) × Unit) := fun st' => run (A_zz39) N (codeAt Try.f190 [1, 1, 0, 1, 0, 0, 1, 1, 0, 0, 1, 1, 1]) st' (blockK 1 (seqK ((A_zz39).shape 31) (run (A_zz39) N (codeAt Try.f190 [1, 1, 0, 1, 0, 0, 1, 1, 1])) (iterK ((A_zz39).shape 6) (run (A_zz39) N (codeAt Try.f190 [1, 1, 0, 1, 0, 0])) m (zz39_E3 kX kO))))
theorem zz39_after7 (N : Nat) (m : Nat) (kX : St → Option ((Y3 × (Bool × Unit)) × Unit)) (kO : Nat → St → Option ((Y3 × (Bool × Unit)) × Unit)) (o1 : Y5) (table4 : Y3) (row6 : Y4) (t11 : Int) (t12 : Int) : zz39_X7 (zz39_k7 N m kX kO) o1 table4 row6 t11 t12 = zz39_a7 (zz39_R3 N m (zz39_E3 kX kO)) o1 table4 row6 t11 t12 := by kernel_rfl
theorem zz39_in7 (N : Nat) (m : Nat) (kX : St → Option ((Y3 × (Bool × Unit)) × Unit)) (kO : Nat → St → Option ((Y3 × (Bool × Unit)) × Unit)) (recF : Y5 → Y3 → Int → Int → Option ((Y3 × (Bool × Unit)) × Unit)) (hrec : zz39_R3 N m (zz39_E3 kX kO) = recF) (o1 : Y5) (table4 : Y3) (x5 : Int) (row6 : Y4) (t11 : Int) (t12 : Int) (t17 : Int) (t18 : Int) : zz39_R7 N N (zz39_K7 N m kX kO) o1 table4 x5 row6 t11 t12 t17 t18 = zz39_F7 N recF (zz39_X3 kX) o1 table4 x5 row6 t11 t12 t17 t18 :=
  have h : zz39_X7 (zz39_k7 N m kX kO) = (zz39_a7 recF) := (funext fun o1 => (funext fun table4 => (funext fun row6 => (funext fun t11 => (funext fun t12 => (zz39_after7 N m kX kO o1 table4 row6 t11 t12).trans (by rw [hrec]))))))
  ((iter_ex (fun st => by kernel_rfl) (fun st => by kernel_rfl)).trans (zz39_iter7 N (zz39_k7 N m kX kO) (fun j st => (zz39_K7 N m kX kO) (.exit j) st) N o1 table4 x5 row6 t11 t12 t17 t18)).trans (congrArg (fun k => zz39_l7 N k N o1 table4 x5 row6 t11 t12 t17 t18) h)
theorem zz39_step3 (N : Nat) (m : Nat) (kX : St → Option ((Y3 × (Bool × Unit)) × Unit)) (kO : Nat → St → Option ((Y3 × (Bool × Unit)) × Unit)) (o1 : Y5) (table4 : Y3) (t11 : Int) (t12 : Int) : zz39_R3 N (m + 1) (zz39_E3 kX kO) o1 table4 t11 t12 = zz39_b3 (zz39_R7 N N (zz39_K7 N m kX kO)) (zz39_X3 kX) o1 table4 t11 t12 := by kernel_rfl
theorem zz39_iter3 (N : Nat) (kX : St → Option ((Y3 × (Bool × Unit)) × Unit)) (kO : Nat → St → Option ((Y3 × (Bool × Unit)) × Unit)) : ∀ (n : Nat) (o1 : Y5) (table4 : Y3) (t11 : Int) (t12 : Int), zz39_R3 N n (zz39_E3 kX kO) o1 table4 t11 t12 = zz39_l3 N (zz39_X3 kX) n o1 table4 t11 t12
  | 0, _, _, _, _ => rfl
  | m + 1, o1, table4, t11, t12 => by
    have hrec : zz39_R3 N m (zz39_E3 kX kO) = (zz39_l3 N (zz39_X3 kX) m) := (funext fun o1 => (funext fun table4 => (funext fun t11 => (funext fun t12 => zz39_iter3 N kX kO m o1 table4 t11 t12))))
    refine (zz39_step3 N m kX kO o1 table4 t11 t12).trans ?_
    rw [(funext fun o1 => (funext fun table4 => (funext fun x5 => (funext fun row6 => (funext fun t11 => (funext fun t12 => (funext fun t17 => (funext fun t18 => zz39_in7 N m kX kO (zz39_l3 N (zz39_X3 kX) m) hrec o1 table4 x5 row6 t11 t12 t17 t18))))))))]
    rfl
noncomputable abbrev zz39_K3 (N : Nat) : Ex → St → Option ((Y3 × (Bool × Unit)) × Unit) := (blockK 0 (seqK ((A_zz39).shape 33) (run (A_zz39) N (codeAt Try.f190 [1, 1, 1])) zz39_z))
noncomputable abbrev zz39_k3 (N : Nat) : St → Option ((Y3 × (Bool × Unit)) × Unit) := fun st' => run (A_zz39) N (codeAt Try.f190 [1, 1, 1]) st' zz39_z
theorem zz39_after3 (N : Nat) (table4 : Y3) : zz39_X3 (zz39_k3 N) table4 = zz39_a3 table4 := by kernel_rfl
theorem zz39_in3 (N : Nat) (o1 : Y5) (table4 : Y3) (t11 : Int) (t12 : Int) : zz39_R3 N N (zz39_K3 N) o1 table4 t11 t12 = zz39_F3 N o1 table4 t11 t12 :=
  have h : zz39_X3 (zz39_k3 N) = (zz39_a3) := (funext fun table4 => zz39_after3 N table4)
  ((iter_ex (fun st => by kernel_rfl) (fun st => by kernel_rfl)).trans (zz39_iter3 N (zz39_k3 N) (fun j st => (zz39_K3 N) (.exit j) st) N o1 table4 t11 t12)).trans (congrArg (fun k => zz39_l3 N k N o1 table4 t11 t12) h)
theorem run0_zz39 (N : Nat) (x : (S_zz39).a.den) : runF (A_zz39) N Try.f190 S_zz39 x = (zz39_s (zz39_R3 N N (zz39_K3 N)) x.1) := by kernel_rfl
theorem run_zz39 (N : Nat) (x : (S_zz39).a.den) : runF (A_zz39) N Try.f190 S_zz39 x = zz39 N x.1 := by
  refine (run0_zz39 N x).trans ?_
  rw [(funext fun o1 => (funext fun table4 => (funext fun t11 => (funext fun t12 => zz39_in3 N o1 table4 t11 t12))))]
  rfl
theorem fn_zz39 : FnOk Try.prog 190 := ⟨_, Try.func190, by kernel_rfl, by kernel_rfl⟩
theorem good_zz39 : Gx.Good Try.prog 190 S_zz39 := good_of_run Try.func190 (of_decide_eq_true (by kernel_rfl)) fun x r h => ⟨A_zz39, big, mkCfg_ok tabOk, mkCfg_sigs (show SigsOk Try.prog [(169, S_zz38), (205, S_zz36)] from ⟨⟨fn_zz38, good_zz38⟩, ⟨fn_zz36, good_zz36⟩, trivial⟩), (run_zz39 big x).trans h⟩

/-! zz40 -/
def zz40_b6 (rec : Y5 → Y5 → Int → Int → Int → Int → Int → Option (Y5 × Unit)) (k : Y5 → Y5 → Int → Int → Option (Y5 × Unit)) (o0 : Y5) (d3 : Y5) (x4 : Int) (t10 : Int) (t11 : Int) (t15 : Int) (t16 : Int) : Option (Y5 × Unit) :=
  cond (decide (t16 < t15))
  ((atI d3 x4).bind fun _ =>
  (d3[x4.toNat]?).bind fun xq2 =>
  (atI o0 t16).bind fun xq3 =>
  (atI xq3 x4).bind fun xq4 =>
  (d3[x4.toNat]?).bind fun xq5 =>
  (atI xq5 t16).bind fun _ =>
  (d3[x4.toNat]?).bind fun xq6 =>
  (xq6[t16.toNat]?).bind fun xq7 =>
  rec o0 (d3.set x4.toNat (xq6.set t16.toNat xq4)) x4 t10 t11 t15 (IntKind.i64.wrap (t16 + (1 : Int))))
  (k o0 d3 t10 t11)
def zz40_a6 (rec : Y5 → Y5 → Int → Int → Option (Y5 × Unit)) (o0 : Y5) (d3 : Y5) (t10 : Int) (t11 : Int) : Option (Y5 × Unit) :=
  rec o0 d3 t10 (IntKind.i64.wrap (t11 + (1 : Int)))
def zz40_b3 (L6 : Y5 → Y5 → Int → Int → Int → Int → Int → Option (Y5 × Unit)) (k : Y5 → Option (Y5 × Unit)) (o0 : Y5) (d3 : Y5) (t10 : Int) (t11 : Int) : Option (Y5 × Unit) :=
  cond (decide (t11 < t10))
  (L6 o0 d3 t11 t10 t11 (o0.length : Int) (0 : Int))
  (k d3)
def zz40_a3 (d3 : Y5) : Option (Y5 × Unit) :=
  some (d3, (()))
def zz40_s (L3 : Y5 → Y5 → Int → Int → Option (Y5 × Unit)) (o_0 : Y5) : Option (Y5 × Unit) :=
  (zz31 big (o_0.length : Int)).bind fun rq1 =>
  L3 o_0 rq1.1 (o_0.length : Int) (0 : Int)
def zz40_l6 (N : Nat) (k : Y5 → Y5 → Int → Int → Option (Y5 × Unit)) : Nat → Y5 → Y5 → Int → Int → Int → Int → Int → Option (Y5 × Unit)
  | 0, _, _, _, _, _, _, _ => none
  | m + 1, o0, d3, x4, t10, t11, t15, t16 => zz40_b6 (zz40_l6 N k m) k o0 d3 x4 t10 t11 t15 t16
def zz40_F6 (N : Nat) (rec : Y5 → Y5 → Int → Int → Option (Y5 × Unit)) (k : Y5 → Option (Y5 × Unit)) (o0 : Y5) (d3 : Y5) (x4 : Int) (t10 : Int) (t11 : Int) (t15 : Int) (t16 : Int) : Option (Y5 × Unit) := zz40_l6 N (zz40_a6 rec) N o0 d3 x4 t10 t11 t15 t16
def zz40_l3 (N : Nat) (k : Y5 → Option (Y5 × Unit)) : Nat → Y5 → Y5 → Int → Int → Option (Y5 × Unit)
  | 0, _, _, _, _ => none
  | m + 1, o0, d3, t10, t11 => zz40_b3 (zz40_F6 N (zz40_l3 N k m) k) k o0 d3 t10 t11
def zz40_F3 (N : Nat) (o0 : Y5) (d3 : Y5) (t10 : Int) (t11 : Int) : Option (Y5 × Unit) := zz40_l3 N (zz40_a3) N o0 d3 t10 t11
def zz40 (N : Nat) (o_0 : Y5) : Option (Y5 × Unit) := zz40_s (zz40_F3 N) o_0
def S_zz40 : Sig := { a := (.pair (.sl (.sl .bool)) .unit), md := [0], mf := [], m := .unit, r := (.sl (.sl .bool)), rf := (.o (.o .i)), f := fun x => zz40 big x.1 }
def A_zz40 : Cfg := mkCfg tab [(81, S_zz31)] [(6, [.as (.sl (.sl .bool)) .i, .drop, .drop, .as (.sl (.sl .bool)) (.o (.o .i)), .drop, .drop, .drop, .drop, .drop, .drop, .as I .i, .as I .i]), (12, [.as (.sl (.sl .bool)) .i, .drop, .drop, .as (.sl (.sl .bool)) (.o (.o .i)), .as I .i, .drop, .drop, .drop, .drop, .drop, .as I .i, .as I .i, .drop, .drop, .drop, .as I .i, .as I .i]), (23, [.drop, .drop, .drop, .as (.sl (.sl .bool)) (.o (.o .i))]), (21, [.as (.sl (.sl .bool)) .i, .drop, .drop, .as (.sl (.sl .bool)) (.o (.o .i)), .drop, .drop, .drop, .drop, .drop, .drop, .as I .i, .as I .i])]
noncomputable def zz40_R3 (N n : Nat) (K : Ex → St → Option (Y5 × Unit)) (o0 : Y5) (d3 : Y5) (t10 : Int) (t11 : Int) : Option (Y5 × Unit) := iter ((A_zz40).shape 6) (run (A_zz40) N (codeAt Try.f191 [1, 1, 0, 1, 0, 0])) n ([.val (.sl (.sl .bool)) .i o0, .u, .u, .val (.sl (.sl .bool)) (.o (.o .i)) d3, .u, .u, .u, .u, .u, .u, .val I .i t10, .val I .i t11] ++ List.replicate 23 .u) K
noncomputable def zz40_R6 (N n : Nat) (K : Ex → St → Option (Y5 × Unit)) (o0 : Y5) (d3 : Y5) (x4 : Int) (t10 : Int) (t11 : Int) (t15 : Int) (t16 : Int) : Option (Y5 × Unit) := iter ((A_zz40).shape 12) (run (A_zz40) N (codeAt Try.f191 [1, 1, 0, 1, 0, 0, 1, 1, 0, 0, 1, 1, 0, 0])) n ([.val (.sl (.sl .bool)) .i o0, .u, .u, .val (.sl (.sl .bool)) (.o (.o .i)) d3, .val I .i x4, .u, .u, .u, .u, .u, .val I .i t10, .val I .i t11, .u, .u, .u, .val I .i t15, .val I .i t16] ++ List.replicate 18 .u) K
noncomputable abbrev zz40_z : Ex → St → Option (Y5 × Unit) := finish (A_zz40) S_zz40 Try.f191.results.toList
noncomputable abbrev zz40_X3 (kX : St → Option (Y5 × Unit)) : Y5 → Option (Y5 × Unit) := fun (d3 : Y5) => kX ([.u, .u, .u, .val (.sl (.sl .bool)) (.o (.o .i)) d3] ++ List.replicate 31 .u)
noncomputable abbrev zz40_E3 (kX : St → Option (Y5 × Unit)) (kO : Nat → St → Option (Y5 × Unit)) : Ex → St → Option (Y5 × Unit) := exK zz40_z 0 ((A_zz40).shape 23) kX kO
noncomputable abbrev zz40_X6 (kX : St → Option (Y5 × Unit)) : Y5 → Y5 → Int → Int → Option (Y5 × Unit) := fun (o0 : Y5) (d3 : Y5) (t10 : Int) (t11 : Int) => kX ([.val (.sl (.sl .bool)) .i o0, .u, .u, .val (.sl (.sl .bool)) (.o (.o .i)) d3, .u, .u, .u, .u, .u, .u, .val I .i t10, .val I .i t11] ++ List.replicate 23 .u)
noncomputable abbrev zz40_E6 (kX : St → Option (Y5 × Unit)) (kO : Nat → St → Option (Y5 × Unit)) : Ex → St → Option (Y5 × Unit) := exK zz40_z 2 ((A_zz40).shape 21) kX kO
theorem zz40_step6 (N : Nat) (m : Nat) (kX : St → Option (Y5 × Unit)) (kO : Nat → St → Option (Y5 × Unit)) (o0 : Y5) (d3 : Y5) (x4 : Int) (t10 : Int) (t11 : Int) (t15 : Int) (t16 : Int) : zz40_R6 N (m + 1) (zz40_E6 kX kO) o0 d3 x4 t10 t11 t15 t16 = zz40_b6 (zz40_R6 N m (zz40_E6 kX kO)) (zz40_X6 kX) o0 d3 x4 t10 t11 t15 t16 := by kernel_rfl
theorem zz40_iter6 (N : Nat) (kX : St → Option (Y5 × Unit)) (kO : Nat → St → Option (Y5 × Unit)) : ∀ (n : Nat) (o0 : Y5) (d3 : Y5) (x4 : Int) (t10 : Int) (t11 : Int) (t15 : Int) (t16 : Int), zz40_R6 N n (zz40_E6 kX kO) o0 d3 x4 t10 t11 t15 t16 = zz40_l6 N (zz40_X6 kX) n o0 d3 x4 t10 t11 t15 t16
  | 0, _, _, _, _, _, _, _ => rfl
  | m + 1, o0, d3, x4, t10, t11, t15, t16 => by
    have hrec : zz40_R6 N m (zz40_E6 kX kO) = (zz40_l6 N (zz40_X6 kX) m) := (funext fun o0 => (funext fun d3 => (funext fun x4 => (funext fun t10 => (funext fun t11 => (funext fun t15 => (funext fun t16 => zz40_iter6 N kX kO m o0 d3 x4 t10 t11 t15 t16)))))))
    refine (zz40_step6 N m kX kO o0 d3 x4 t10 t11 t15 t16).trans ?_
    rw [hrec]
    rfl
noncomputable abbrev zz40_K6 (N : Nat) (m : Nat) (kX : St → Option (Y5 × Unit)) (kO : Nat → St → Option (Y5 × Unit)) : Ex → St → Option (Y5 × Unit) := (blockK 2 (blockK 1 (seqK ((A_zz40).shape 21) (run (A_zz40) N (codeAt Try.f191 [1, 1, 0, 1, 0, 0, 1, 1, 1])) (iterK ((A_zz40).shape 6) (run (A_zz40) N (codeAt Try.f191 [1, 1, 0, 1, 0, 0])) m (zz40_E3 kX kO)))))
noncomputable abbrev zz40_k6 (N : Nat) (m : Nat) (kX : St → Option (Y5 × Unit)) (kO : Nat → St → Option (Y5 × Unit)) : St → Option (Y5 × Unit) := fun st' => run (A_zz40) N (codeAt Try.f191 [1, 1, 0, 1, 0, 0, 1, 1, 1]) st' (iterK ((A_zz40).shape 6) (run (A_zz40) N (codeAt Try.f191 [1, 1, 0, 1, 0, 0])) m (zz40_E3 kX kO))
theorem zz40_after6 (N : Nat) (m : Nat) (kX : St → Option (Y5 × Unit)) (kO : Nat → St → Option (Y5 × Unit)) (o0 : Y5) (d3 : Y5) (t10 : Int) (t11 : Int) : zz40_X6 (zz40_k6 N m kX kO) o0 d3 t10 t11 = zz40_a6 (zz40_R3 N m (zz40_E3 kX kO)) o0 d3 t10 t11 := by kernel_rfl
theorem zz40_in6 (N : Nat) (m : Nat) (kX : St → Option (Y5 × Unit)) (kO : Nat → St → Option (Y5 × Unit)) (recF : Y5 → Y5 → Int → Int → Option (Y5 × Unit)) (hrec : zz40_R3 N m (zz40_E3 kX kO) = recF) (o0 : Y5) (d3 : Y5) (x4 : Int) (t10 : Int) (t11 : Int) (t15 : Int) (t16 : Int) : zz40_R6 N N (zz40_K6 N m kX kO) o0 d3 x4 t10 t11 t15 t16 = zz40_F6 N recF (zz40_X3 kX) o0 d3 x4 t10 t11 t15 t16 :=
  have h : zz40_X6 (zz40_k6 N m kX kO) = (zz40_a6 recF) := (funext fun o0 => (funext fun d3 => (funext fun t10 => (funext fun t11 => (zz40_after6 N m kX kO o0 d3 t10 t11).trans (by rw [hrec])))))
  ((iter_ex (fun st => by kernel_rfl) (fun st => by kernel_rfl)).trans (zz40_iter6 N (zz40_k6 N m kX kO) (fun j st => (zz40_K6 N m kX kO) (.exit j) st) N o0 d3 x4 t10 t11 t15 t16)).trans (congrArg (fun k => zz40_l6 N k N o0 d3 x4 t10 t11 t15 t16) h)
theorem zz40_step3 (N : Nat) (m : Nat) (kX : St → Option (Y5 × Unit)) (kO : Nat → St → Option (Y5 × Unit)) (o0 : Y5) (d3 : Y5) (t10 : Int) (t11 : Int) : zz40_R3 N (m + 1) (zz40_E3 kX kO) o0 d3 t10 t11 = zz40_b3 (zz40_R6 N N (zz40_K6 N m kX kO)) (zz40_X3 kX) o0 d3 t10 t11 := by kernel_rfl
theorem zz40_iter3 (N : Nat) (kX : St → Option (Y5 × Unit)) (kO : Nat → St → Option (Y5 × Unit)) : ∀ (n : Nat) (o0 : Y5) (d3 : Y5) (t10 : Int) (t11 : Int), zz40_R3 N n (zz40_E3 kX kO) o0 d3 t10 t11 = zz40_l3 N (zz40_X3 kX) n o0 d3 t10 t11
  | 0, _, _, _, _ => rfl
  | m + 1, o0, d3, t10, t11 => by
    have hrec : zz40_R3 N m (zz40_E3 kX kO) = (zz40_l3 N (zz40_X3 kX) m) := (funext fun o0 => (funext fun d3 => (funext fun t10 => (funext fun t11 => zz40_iter3 N kX kO m o0 d3 t10 t11))))
    refine (zz40_step3 N m kX kO o0 d3 t10 t11).trans ?_
    rw [(funext fun o0 => (funext fun d3 => (funext fun x4 => (funext fun t10 => (funext fun t11 => (funext fun t15 => (funext fun t16 => zz40_in6 N m kX kO (zz40_l3 N (zz40_X3 kX) m) hrec o0 d3 x4 t10 t11 t15 t16)))))))]
    rfl
noncomputable abbrev zz40_K3 (N : Nat) : Ex → St → Option (Y5 × Unit) := (blockK 0 (seqK ((A_zz40).shape 23) (run (A_zz40) N (codeAt Try.f191 [1, 1, 1])) zz40_z))
noncomputable abbrev zz40_k3 (N : Nat) : St → Option (Y5 × Unit) := fun st' => run (A_zz40) N (codeAt Try.f191 [1, 1, 1]) st' zz40_z
theorem zz40_after3 (N : Nat) (d3 : Y5) : zz40_X3 (zz40_k3 N) d3 = zz40_a3 d3 := by kernel_rfl
theorem zz40_in3 (N : Nat) (o0 : Y5) (d3 : Y5) (t10 : Int) (t11 : Int) : zz40_R3 N N (zz40_K3 N) o0 d3 t10 t11 = zz40_F3 N o0 d3 t10 t11 :=
  have h : zz40_X3 (zz40_k3 N) = (zz40_a3) := (funext fun d3 => zz40_after3 N d3)
  ((iter_ex (fun st => by kernel_rfl) (fun st => by kernel_rfl)).trans (zz40_iter3 N (zz40_k3 N) (fun j st => (zz40_K3 N) (.exit j) st) N o0 d3 t10 t11)).trans (congrArg (fun k => zz40_l3 N k N o0 d3 t10 t11) h)
theorem run0_zz40 (N : Nat) (x : (S_zz40).a.den) : runF (A_zz40) N Try.f191 S_zz40 x = (zz40_s (zz40_R3 N N (zz40_K3 N)) x.1) := by kernel_rfl
theorem run_zz40 (N : Nat) (x : (S_zz40).a.den) : runF (A_zz40) N Try.f191 S_zz40 x = zz40 N x.1 := by
  refine (run0_zz40 N x).trans ?_
  rw [(funext fun o0 => (funext fun d3 => (funext fun t10 => (funext fun t11 => zz40_in3 N o0 d3 t10 t11))))]
  rfl
theorem fn_zz40 : FnOk Try.prog 191 := ⟨_, Try.func191, by kernel_rfl, by kernel_rfl⟩
theorem good_zz40 : Gx.Good Try.prog 191 S_zz40 := good_of_run Try.func191 (of_decide_eq_true (by kernel_rfl)) fun x r h => ⟨A_zz40, big, mkCfg_ok tabOk, mkCfg_sigs (show SigsOk Try.prog [(81, S_zz31)] from ⟨⟨fn_zz31, good_zz31⟩, trivial⟩), (run_zz40 big x).trans h⟩

/-! zz41 -/
def zz41_s (p_0 : Y2) : Option ((Y1 × (Bool × Unit)) × Unit) :=
  (zz35 big p_0).bind fun rq1 =>
  cond (!((((), rq1.1.2).2).1))
  (some ((none, false, ()), (())))
  (cond (decide ((rq1.1.1.length : Int) = (0 : Int)))
  (some ((none, false, ()), (())))
  ((zz39 big rq1.1.1).bind fun rq2 =>
  (zz40 big rq1.1.1).bind fun rq3 =>
  (zz39 big rq3.1).bind fun rq4 =>
  cond ((((), rq2.1.2).2).1)
  (some ((some (rq1.1.1, (rq2.1.1, (rq4.1.1, ()))), (((), rq4.1.2).2).1, ()), (())))
  (some ((some (rq1.1.1, (rq2.1.1, (rq4.1.1, ()))), false, ()), (())))))
def zz41 (p_0 : Y2) : Option ((Y1 × (Bool × Unit)) × Unit) := zz41_s p_0
def S_zz41 : Sig := { a := (.pair (.pair (.sl (.sl I)) .unit) .unit), md := [0], mf := [], m := .unit, r := (.tup (.pair (.opt (.pair (.sl (.sl .bool)) (.pair (.sl (.sl I)) (.pair (.sl (.sl I)) .unit)))) (.pair .bool .unit))), rf := .i, f := fun x => zz41 x.1 }
def A_zz41 : Cfg := mkCfg tab [(189, S_zz35), (190, S_zz39), (191, S_zz40)] []
theorem run_zz41 (N : Nat) (x : (S_zz41).a.den) : runF (A_zz41) N Try.f141 S_zz41 x = zz41 x.1 := by kernel_rfl
theorem fn_zz41 : FnOk Try.prog 141 := ⟨_, Try.func141, by kernel_rfl, by kernel_rfl⟩
theorem good_zz41 : Gx.Good Try.prog 141 S_zz41 := good_of_run Try.func141 (of_decide_eq_true (by kernel_rfl)) fun x r h => ⟨A_zz41, big, mkCfg_ok tabOk, mkCfg_sigs (show SigsOk Try.prog [(189, S_zz35), (190, S_zz39), (191, S_zz40)] from ⟨⟨fn_zz35, good_zz35⟩, ⟨fn_zz39, good_zz39⟩, ⟨fn_zz40, good_zz40⟩, trivial⟩), (run_zz41 big x).trans h⟩

/-! zz42 -/
def zz42_s (p_0 : Y2) : Option ((Y1 × (Bool × Unit)) × Unit) :=
  (zz41 p_0).bind fun rq1 =>
  cond rq1.1.2.1
  ((rq1.1.1).bind fun xq2 =>
  some ((rq1.1.1, decide ((xq2.1.length : Int) ≤ (8 : Int)), ()), (())))
  (some ((rq1.1.1, false, ()), (())))
def zz42 (p_0 : Y2) : Option ((Y1 × (Bool × Unit)) × Unit) := zz42_s p_0
def S_zz42 : Sig := { a := (.pair (.pair (.sl (.sl I)) .unit) .unit), md := [0], mf := [], m := .unit, r := (.tup (.pair (.opt (.pair (.sl (.sl .bool)) (.pair (.sl (.sl I)) (.pair (.sl (.sl I)) .unit)))) (.pair .bool .unit))), rf := .i, f := fun x => zz42 x.1 }
def A_zz42 : Cfg := mkCfg tab [(141, S_zz41)] []
theorem run_zz42 (N : Nat) (x : (S_zz42).a.den) : runF (A_zz42) N Try.f71 S_zz42 x = zz42 x.1 := by kernel_rfl
theorem fn_zz42 : FnOk Try.prog 71 := ⟨_, Try.func71, by kernel_rfl, by kernel_rfl⟩
theorem good_zz42 : Gx.Good Try.prog 71 S_zz42 := good_of_run Try.func71 (of_decide_eq_true (by kernel_rfl)) fun x r h => ⟨A_zz42, big, mkCfg_ok tabOk, mkCfg_sigs (show SigsOk Try.prog [(141, S_zz41)] from ⟨⟨fn_zz41, good_zz41⟩, trivial⟩), (run_zz42 big x).trans h⟩

/-! zz43 -/
def zz43_b3 (rec : Y6 → Y6 → Y3 → Int → Int → Option (Y6 × Unit)) (k : Y6 → Y6 → Option (Y6 × Unit)) (t2 : Y6) (f3 : Y6) (t7 : Y3) (t8 : Int) (t9 : Int) : Option (Y6 × Unit) :=
  cond (decide (t9 < t8))
  ((atI t7 t9).bind fun xq1 =>
  (appI f3.2.1 xq1).bind fun xq2 =>
  rec t2 ((f3.1, ((), f3.2.2)).1, (xq2, ((f3.1, ((), f3.2.2)).2).2)) t7 t8 (IntKind.i64.wrap (t9 + (1 : Int))))
  (k t2 f3)
def zz43_a3 (t2 : Y6) (f3 : Y6) : Option (Y6 × Unit) :=
  some (f3, (()))
def zz43_s (L3 : Y6 → Y6 → Y3 → Int → Int → Option (Y6 × Unit)) (table_0 : Y3) : Option (Y6 × Unit) :=
  L3 ((0 : Int), (([] : Y4), ())) ((2 : Int), (([] : Y4), ())) table_0 (table_0.length : Int) (0 : Int)
def zz43_l3 (N : Nat) (k : Y6 → Y6 → Option (Y6 × Unit)) : Nat → Y6 → Y6 → Y3 → Int → Int → Option (Y6 × Unit)
  | 0, _, _, _, _, _ => none
  | m + 1, t2, f3, t7, t8, t9 => zz43_b3 (zz43_l3 N k m) k t2 f3 t7 t8 t9
def zz43_F3 (N : Nat) (t2 : Y6) (f3 : Y6) (t7 : Y3) (t8 : Int) (t9 : Int) : Option (Y6 × Unit) := zz43_l3 N (zz43_a3) N t2 f3 t7 t8 t9
def zz43 (N : Nat) (table_0 : Y3) : Option (Y6 × Unit) := zz43_s (zz43_F3 N) table_0
def S_zz43 : Sig := { a := (.pair (.sl (.sl I)) .unit), md := [0], mf := [], m := .unit, r := (.pair I (.pair (.sl I) .unit)), rf := (.p .i (.p (.o .i) .i)), f := fun x => zz43 big x.1 }
def A_zz43 : Cfg := mkCfg tab [] [(6, [.drop, .drop, .as (.ptr (.pair I (.pair (.sl I) .unit))) (.o (.p .i (.p (.o .i) .i))), .as (.ptr (.pair I (.pair (.sl I) .unit))) (.o (.p .i (.p (.o .i) .i))), .drop, .drop, .drop, .as (.sl (.sl I)) .i, .as I .i, .as I .i]), (15, [.drop, .drop, .as (.ptr (.pair I (.pair (.sl I) .unit))) (.o (.p .i (.p (.o .i) .i))), .as (.ptr (.pair I (.pair (.sl I) .unit))) (.o (.p .i (.p (.o .i) .i)))])]
noncomputable def zz43_R3 (N n : Nat) (K : Ex → St → Option (Y6 × Unit)) (t2 : Y6) (f3 : Y6) (t7 : Y3) (t8 : Int) (t9 : Int) : Option (Y6 × Unit) := iter ((A_zz43).shape 6) (run (A_zz43) N (codeAt Try.f135 [1, 1, 0, 1, 0, 0])) n ([.u, .u, .val (.ptr (.pair I (.pair (.sl I) .unit))) (.o (.p .i (.p (.o .i) .i))) t2, .val (.ptr (.pair I (.pair (.sl I) .unit))) (.o (.p .i (.p (.o .i) .i))) f3, .u, .u, .u, .val (.sl (.sl I)) .i t7, .val I .i t8, .val I .i t9] ++ List.replicate 10 .u) K
noncomputable abbrev zz43_z : Ex → St → Option (Y6 × Unit) := finish (A_zz43) S_zz43 Try.f135.results.toList
noncomputable abbrev zz43_X3 (kX : St → Option (Y6 × Unit)) : Y6 → Y6 → Option (Y6 × Unit) := fun (t2 : Y6) (f3 : Y6) => kX ([.u, .u, .val (.ptr (.pair I (.pair (.sl I) .unit))) (.o (.p .i (.p (.o .i) .i))) t2, .val (.ptr (.pair I (.pair (.sl I) .unit))) (.o (.p .i (.p (.o .i) .i))) f3] ++ List.replicate 16 .u)
noncomputable abbrev zz43_E3 (kX : St → Option (Y6 × Unit)) (kO : Nat → St → Option (Y6 × Unit)) : Ex → St → Option (Y6 × Unit) := exK zz43_z 0 ((A_zz43).shape 15) kX kO
theorem zz43_step3 (N : Nat) (m : Nat) (kX : St → Option (Y6 × Unit)) (kO : Nat → St → Option (Y6 × Unit)) (t2 : Y6) (f3 : Y6) (t7 : Y3) (t8 : Int) (t9 : Int) : zz43_R3 N (m + 1) (zz43_E3 kX kO) t2 f3 t7 t8 t9 = zz43_b3 (zz43_R3 N m (zz43_E3 kX kO)) (zz43_X3 kX) t2 f3 t7 t8 t9 := by kernel_rfl
theorem zz43_iter3 (N : Nat) (kX : St → Option (Y6 × Unit)) (kO : Nat → St → Option (Y6 × Unit)) : ∀ (n : Nat) (t2 : Y6) (f3 : Y6) (t7 : Y3) (t8 : Int) (t9 : Int), zz43_R3 N n (zz43_E3 kX kO) t2 f3 t7 t8 t9 = zz43_l3 N (zz43_X3 kX) n t2 f3 t7 t8 t9
  | 0, _, _, _, _, _ => rfl
  | m + 1, t2, f3, t7, t8, t9 => by
    have hrec : zz43_R3 N m (zz43_E3 kX kO) = (zz43_l3 N (zz43_X3 kX) m) := (funext fun t2 => (funext fun f3 => (funext fun t7 => (funext fun t8 => (funext fun t9 => zz43_iter3 N kX kO m t2 f3 t7 t8 t9)))))
    refine (zz43_step3 N m kX kO t2 f3 t7 t8 t9).trans ?_
    rw [hrec]
    rfl
noncomputable abbrev zz43_K3 (N : Nat) : Ex → St → Option (Y6 × Unit) := (blockK 0 (seqK ((A_zz43).shape 15) (run (A_zz43) N (codeAt Try.f135 [1, 1, 1])) zz43_z))
noncomputable abbrev zz43_k3 (N : Nat) : St → Option (Y6 × Unit) := fun st' => run (A_zz43) N (codeAt Try.f135 [1, 1, 1]) st' zz43_z
theorem zz43_after3 (N : Nat) (t2 : Y6) (f3 : Y6) : zz43_X3 (zz43_k3 N) t2 f3 = zz43_a3 t2 f3 := by kernel_rfl
theorem zz43_in3 (N : Nat) (t2 : Y6) (f3 : Y6) (t7 : Y3) (t8 : Int) (t9 : Int) : zz43_R3 N N (zz43_K3 N) t2 f3 t7 t8 t9 = zz43_F3 N t2 f3 t7 t8 t9 :=
  have h : zz43_X3 (zz43_k3 N) = (zz43_a3) := (funext fun t2 => (funext fun f3 => zz43_after3 N t2 f3))
  ((iter_ex (fun st => by kernel_rfl) (fun st => by kernel_rfl)).trans (zz43_iter3 N (zz43_k3 N) (fun j st => (zz43_K3 N) (.exit j) st) N t2 f3 t7 t8 t9)).trans (congrArg (fun k => zz43_l3 N k N t2 f3 t7 t8 t9) h)
theorem run0_zz43 (N : Nat) (x : (S_zz43).a.den) : runF (A_zz43) N Try.f135 S_zz43 x = (zz43_s (zz43_R3 N N (zz43_K3 N)) x.1) := by kernel_rfl
theorem run_zz43 (N : Nat) (x : (S_zz43).a.den) : runF (A_zz43) N Try.f135 S_zz43 x = zz43 N x.1 := by
  refine (run0_zz43 N x).trans ?_
  rw [(funext fun t2 => (funext fun f3 => (funext fun t7 => (funext fun t8 => (funext fun t9 => zz43_in3 N t2 f3 t7 t8 t9)))))]
  rfl
theorem fn_zz43 : FnOk Try.prog 135 := ⟨_, Try.func135, by kernel_rfl, by kernel_rfl⟩
theorem good_zz43 : Gx.Good Try.prog 135 S_zz43 := good_of_run Try.func135 (of_decide_eq_true (by kernel_rfl)) fun x r h => ⟨A_zz43, big, mkCfg_ok tabOk, mkCfg_sigs (show SigsOk Try.prog [] from trivial), (run_zz43 big x).trans h⟩

/-! zz44 -/
def zz44_s (l_0 : Y1) : Option (Y7 × Unit) :=
  (l_0).bind fun xq1 =>
  (l_0).bind fun xq2 =>
  (zz43 big xq2.2.1).bind fun rq3 =>
  (l_0).bind fun xq4 =>
  (zz43 big xq4.2.2.1).bind fun rq5 =>
  some (((xq1.1.length : Int), ([rq3.1, rq5.1], ())), (()))
def zz44 (l_0 : Y1) : Option (Y7 × Unit) := zz44_s l_0
def S_zz44 : Sig := { a := (.pair (.opt (.pair (.sl (.sl .bool)) (.pair (.sl (.sl I)) (.pair (.sl (.sl I)) .unit)))) .unit), md := [0], mf := [], m := .unit, r := (.pair I (.pair (.sl (.pair I (.pair (.sl I) .unit))) .unit)), rf := (.p .i (.p (.o (.p .i (.p (.o .i) .i))) .i)), f := fun x => zz44 x.1 }
def A_zz44 : Cfg := mkCfg tab [(135, S_zz43)] []
theorem run_zz44 (N : Nat) (x : (S_zz44).a.den) : runF (A_zz44) N Try.f73 S_zz44 x = zz44 x.1 := by kernel_rfl
theorem fn_zz44 : FnOk Try.prog 73 := ⟨_, Try.func73, by kernel_rfl, by kernel_rfl⟩
theorem good_zz44 : Gx.Good Try.prog 73 S_zz44 := good_of_run Try.func73 (of_decide_eq_true (by kernel_rfl)) fun x r h => ⟨A_zz44, big, mkCfg_ok tabOk, mkCfg_sigs (show SigsOk Try.prog [(135, S_zz43)] from ⟨⟨fn_zz43, good_zz43⟩, trivial⟩), (run_zz44 big x).trans h⟩

/-! zz45 -/
def zz45_b4 (rec : Y4 → Y4 → Int → Int → Option (Bool × Unit)) (k : Option (Bool × Unit)) (p1 : Y4) (t11 : Y4) (t12 : Int) (t13 : Int) : Option (Bool × Unit) :=
  cond (decide (t13 < t12))
  ((atI t11 t13).bind fun xq1 =>
  cond (decide (xq1 < (0 : Int)))
  (some (false, (())))
  (cond (decide (t13 < xq1))
  (some (false, (())))
  ((atI p1 xq1).bind fun xq2 =>
  cond (decide (xq2 ≠ xq1))
  (some (false, (())))
  (rec p1 t11 t12 (IntKind.i64.wrap (t13 + (1 : Int)))))))
  (k)
def zz45_a4 : Option (Bool × Unit) :=
  some (true, (()))
def zz45_s (L4 : Y4 → Y4 → Int → Int → Option (Bool × Unit)) (n_0 : Int) (p_1 : Y4) : Option (Bool × Unit) :=
  cond (decide ((p_1.length : Int) ≠ n_0))
  (some (false, (())))
  (L4 p_1 p_1 (p_1.length : Int) (0 : Int))
def zz45_l4 (N : Nat) (k : Option (Bool × Unit)) : Nat → Y4 → Y4 → Int → Int → Option (Bool × Unit)
  | 0, _, _, _, _ => none
  | m + 1, p1, t11, t12, t13 => zz45_b4 (zz45_l4 N k m) k p1 t11 t12 t13
def zz45_F4 (N : Nat) (p1 : Y4) (t11 : Y4) (t12 : Int) (t13 : Int) : Option (Bool × Unit) := zz45_l4 N (zz45_a4) N p1 t11 t12 t13
def zz45 (N : Nat) (n_0 : Int) (p_1 : Y4) : Option (Bool × Unit) := zz45_s (zz45_F4 N) n_0 p_1
def S_zz45 : Sig := { a := (.pair I (.pair (.sl I) .unit)), md := [0, 0], mf := [], m := .unit, r := .bool, rf := .i, f := fun x => zz45 big x.1 x.2.1 }
def A_zz45 : Cfg := mkCfg tab [] [(8, [.drop, .as (.sl I) .i, .drop, .drop, .drop, .drop, .drop, .drop, .drop, .drop, .drop, .as (.sl I) .i, .as I .i, .as I .i]), (19, [])]
noncomputable def zz45_R4 (N n : Nat) (K : Ex → St → Option (Bool × Unit)) (p1 : Y4) (t11 : Y4) (t12 : Int) (t13 : Int) : Option (Bool × Unit) := iter ((A_zz45).shape 8) (run (A_zz45) N (codeAt Try.f142 [1, 1, 0, 1, 0, 0])) n ([.u, .val (.sl I) .i p1, .u, .u, .u, .u, .u, .u, .u, .u, .u, .val (.sl I) .i t11, .val I .i t12, .val I .i t13] ++ List.replicate 20 .u) K
noncomputable abbrev zz45_z : Ex → St → Option (Bool × Unit) := finish (A_zz45) S_zz45 Try.f142.results.toList
noncomputable abbrev zz45_X4 (kX : St → Option (Bool × Unit)) : Option (Bool × Unit) := kX ([] ++ List.replicate 34 .u)
noncomputable abbrev zz45_E4 (kX : St → Option (Bool × Unit)) (kO : Nat → St → Option (Bool × Unit)) : Ex → St → Option (Bool × Unit) := exK zz45_z 0 ((A_zz45).shape 19) kX kO
theorem zz45_step4 (N : Nat) (m : Nat) (kX : St → Option (Bool × Unit)) (kO : Nat → St → Option (Bool × Unit)) (p1 : Y4) (t11 : Y4) (t12 : Int) (t13 : Int) : zz45_R4 N (m + 1) (zz45_E4 kX kO) p1 t11 t12 t13 = zz45_b4 (zz45_R4 N m (zz45_E4 kX kO)) (zz45_X4 kX) p1 t11 t12 t13 := by kernel_rfl
theorem zz45_iter4 (N : Nat) (kX : St → Option (Bool × Unit)) (kO : Nat → St → Option (Bool × Unit)) : ∀ (n : Nat) (p1 : Y4) (t11 : Y4) (t12 : Int) (t13 : Int), zz45_R4 N n (zz45_E4 kX kO) p1 t11 t12 t13 = zz45_l4 N (zz45_X4 kX) n p1 t11 t12 t13
  | 0, _, _, _, _ => rfl
  | m + 1, p1, t11, t12, t13 => by
    have hrec : zz45_R4 N m (zz45_E4 kX kO) = (zz45_l4 N (zz45_X4 kX) m) := (funext fun p1 => (funext fun t11 => (funext fun t12 => (funext fun t13 => zz45_iter4 N kX kO m p1 t11 t12 t13))))
    refine (zz45_step4 N m kX kO p1 t11 t12 t13).trans ?_
    rw [hrec]
    rfl
noncomputable abbrev zz45_K4 (N : Nat) : Ex → St → Option (Bool × Unit) := (blockK 0 (seqK ((A_zz45).shape 19) (run (A_zz45) N (codeAt Try.f142 [1, 1, 1])) zz45_z))
noncomputable abbrev zz45_k4 (N : Nat) : St → Option (Bool × Unit) := fun st' => run (A_zz45) N (codeAt Try.f142 [1, 1, 1]) st' zz45_z
theorem zz45_after4 (N : Nat) : zz45_X4 (zz45_k4 N) = zz45_a4 := by kernel_rfl
theorem zz45_in4 (N : Nat) (p1 : Y4) (t11 : Y4) (t12 : Int) (t13 : Int) : zz45_R4 N N (zz45_K4 N) p1 t11 t12 t13 = zz45_F4 N p1 t11 t12 t13 :=
  have h : zz45_X4 (zz45_k4 N) = (zz45_a4) := zz45_after4 N
  ((iter_ex (fun st => by kernel_rfl) (fun st => by kernel_rfl)).trans (zz45_iter4 N (zz45_k4 N) (fun j st => (zz45_K4 N) (.exit j) st) N p1 t11 t12 t13)).trans (congrArg (fun k => zz45_l4 N k N p1 t11 t12 t13) h)
theorem run0_zz45 (N : Nat) (x : (S_zz45).a.den) : runF (A_zz45) N Try.f142 S_zz45 x = (zz45_s (zz45_R4 N N (zz45_K4 N)) x.1 x.2.1) := by kernel_rfl
theorem run_zz45 (N : Nat) (x : (S_zz45).a.den) : runF (A_zz45) N Try.f142 S_zz45 x = zz45 N x.1 x.2.1 := by
  refine (run0_zz45 N x).trans ?_
  rw [(funext fun p1 => (funext fun t11 => (funext fun t12 => (funext fun t13 => zz45_in4 N p1 t11 t12 t13))))]
  rfl
theorem fn_zz45 : FnOk Try.prog 142 := ⟨_, Try.func142, by kernel_rfl, by kernel_rfl⟩
theorem good_zz45 : Gx.Good Try.prog 142 S_zz45 := good_of_run Try.func142 (of_decide_eq_true (by kernel_rfl)) fun x r h => ⟨A_zz45, big, mkCfg_ok tabOk, mkCfg_sigs (show SigsOk Try.prog [] from trivial), (run_zz45 big x).trans h⟩

/-! zz46 -/
def zz46_s (list_0 : Y4) : Option (Y4 × Unit) :=
  (appI [] list_0).bind fun xq1 =>
  some (xq1, (()))
def zz46 (list_0 : Y4) : Option (Y4 × Unit) := zz46_s list_0
def S_zz46 : Sig := { a := (.pair (.sl I) .unit), md := [0], mf := [], m := .unit, r := (.sl I), rf := (.o .i), f := fun x => zz46 x.1 }
def A_zz46 : Cfg := mkCfg tab [] []
theorem run_zz46 (N : Nat) (x : (S_zz46).a.den) : runF (A_zz46) N Try.f144 S_zz46 x = zz46 x.1 := by kernel_rfl
theorem fn_zz46 : FnOk Try.prog 144 := ⟨_, Try.func144, by kernel_rfl, by kernel_rfl⟩
theorem good_zz46 : Gx.Good Try.prog 144 S_zz46 := good_of_run Try.func144 (of_decide_eq_true (by kernel_rfl)) fun x r h => ⟨A_zz46, big, mkCfg_ok tabOk, mkCfg_sigs (show SigsOk Try.prog [] from trivial), (run_zz46 big x).trans h⟩

/-! zz47 -/
def zz47_b7 (rec : Y4 → Int → Int → Int → Int → Option (Bool × (Y4 × Unit))) (k : Y4 → Option (Bool × (Y4 × Unit))) (p0 : Y4) (x1 : Int) (y2 : Int) (t25 : Int) (t26 : Int) : Option (Bool × (Y4 × Unit)) :=
  cond (decide (t26 < t25))
  ((atI p0 t26).bind fun _ =>
  (p0[t26.toNat]?).bind fun xq3 =>
  cond (decide (xq3 = y2))
  ((atI p0 t26).bind fun _ =>
  (p0[t26.toNat]?).bind fun xq4 =>
  rec (p0.set t26.toNat x1) x1 y2 t25 (IntKind.i64.wrap (t26 + (1 : Int))))
  (rec p0 x1 y2 t25 (IntKind.i64.wrap (t26 + (1 : Int)))))
  (k p0)
def zz47_a7 (p0 : Y4) : Option (Bool × (Y4 × Unit)) :=
  some (true, (p0, ()))
def zz47_s (L7 : Y4 → Int → Int → Int → Int → Option (Bool × (Y4 × Unit))) (p_0 : Y4) (x_1 : Int) (y_2 : Int) : Option (Bool × (Y4 × Unit)) :=
  (atI p_0 x_1).bind fun _ =>
  (p_0[x_1.toNat]?).bind fun xq1 =>
  (atI p_0 y_2).bind fun _ =>
  (p_0[y_2.toNat]?).bind fun xq2 =>
  cond (decide (xq1 = xq2))
  (some (false, (p_0, ())))
  (cond (decide (xq2 < xq1))
  (L7 p_0 xq2 xq1 (p_0.length : Int) (0 : Int))
  (L7 p_0 xq1 xq2 (p_0.length : Int) (0 : Int)))
def zz47_l7 (N : Nat) (k : Y4 → Option (Bool × (Y4 × Unit))) : Nat → Y4 → Int → Int → Int → Int → Option (Bool × (Y4 × Unit))
  | 0, _, _, _, _, _ => none
  | m + 1, p0, x1, y2, t25, t26 => zz47_b7 (zz47_l7 N k m) k p0 x1 y2 t25 t26
def zz47_F7 (N : Nat) (p0 : Y4) (x1 : Int) (y2 : Int) (t25 : Int) (t26 : Int) : Option (Bool × (Y4 × Unit)) := zz47_l7 N (zz47_a7) N p0 x1 y2 t25 t26
def zz47 (N : Nat) (p_0 : Y4) (x_1 : Int) (y_2 : Int) : Option (Bool × (Y4 × Unit)) := zz47_s (zz47_F7 N) p_0 x_1 y_2
def S_zz47 : Sig := { a := (.pair (.sl I) (.pair I (.pair I .unit))), md := [1, 0, 0], mf := [(.o .i)], m := (.pair (.sl I) .unit), r := .bool, rf := .i, f := fun x => zz47 big x.1 x.2.1 x.2.2.1 }
def A_zz47 : Cfg := mkCfg tab [] [(14, [.as (.sl I) (.o .i), .as I .i, .as I .i, .drop, .drop, .drop, .drop, .drop, .drop, .drop, .drop, .drop, .drop, .drop, .drop, .drop, .drop, .drop, .drop, .drop, .drop, .drop, .drop, .drop, .drop, .as I .i, .as I .i]), (25, [.as (.sl I) (.o .i)])]
noncomputable def zz47_R7 (N n : Nat) (K : Ex → St → Option (Bool × (Y4 × Unit))) (p0 : Y4) (x1 : Int) (y2 : Int) (t25 : Int) (t26 : Int) : Option (Bool × (Y4 × Unit)) := iter ((A_zz47).shape 14) (run (A_zz47) N (codeAt Try.f192 [1, 1, 1, 1, 0, 1, 0, 0])) n ([.val (.sl I) (.o .i) p0, .val I .i x1, .val I .i y2, .u, .u, .u, .u, .u, .u, .u, .u, .u, .u, .u, .u, .u, .u, .u, .u, .u, .u, .u, .u, .u, .u, .val I .i t25, .val I .i t26] ++ List.replicate 13 .u) K
noncomputable abbrev zz47_z : Ex → St → Option (Bool × (Y4 × Unit)) := finish (A_zz47) S_zz47 Try.f192.results.toList
noncomputable abbrev zz47_X7 (kX : St → Option (Bool × (Y4 × Unit))) : Y4 → Option (Bool × (Y4 × Unit)) := fun (p0 : Y4) => kX ([.val (.sl I) (.o .i) p0] ++ List.replicate 39 .u)
noncomputable abbrev zz47_E7 (kX : St → Option (Bool × (Y4 × Unit))) (kO : Nat → St → Option (Bool × (Y4 × Unit))) : Ex → St → Option (Bool × (Y4 × Unit)) := exK zz47_z 0 ((A_zz47).shape 25) kX kO
theorem zz47_step7 (N : Nat) (m : Nat) (kX : St → Option (Bool × (Y4 × Unit))) (kO : Nat → St → Option (Bool × (Y4 × Unit))) (p0 : Y4) (x1 : Int) (y2 : Int) (t25 : Int) (t26 : Int) : zz47_R7 N (m + 1) (zz47_E7 kX kO) p0 x1 y2 t25 t26 = zz47_b7 (zz47_R7 N m (zz47_E7 kX kO)) (zz47_X7 kX) p0 x1 y2 t25 t26 := by kernel_rfl
theorem zz47_iter7 (N : Nat) (kX : St → Option (Bool × (Y4 × Unit))) (kO : Nat → St → Option (Bool × (Y4 × Unit))) : ∀ (n : Nat) (p0 : Y4) (x1 : Int) (y2 : Int) (t25 : Int) (t26 : Int), zz47_R7 N n (zz47_E7 kX kO) p0 x1 y2 t25 t26 = zz47_l7 N (zz47_X7 kX) n p0 x1 y2 t25 t26
  | 0, _, _, _, _, _ => rfl
  | m + 1, p0, x1, y2, t25, t26 => by
    have hrec : zz47_R7 N m (zz47_E7 kX kO) = (zz47_l7 N (zz47_X7 kX) m) := (funext fun p0 => (funext fun x1 => (funext fun y2 => (funext fun t25 => (funext fun t26 => zz47_iter7 N kX kO m p0 x1 y2 t25 t26)))))
    refine (zz47_step7 N m kX kO p0 x1 y2 t25 t26).trans ?_
    rw [hrec]
    rfl
noncomputable abbrev zz47_K7 (N : Nat) : Ex → St → Option (Bool × (Y4 × Unit)) := (blockK 0 (seqK ((A_zz47).shape 25) (run (A_zz47) N (codeAt Try.f192 [1, 1, 1, 1, 1])) zz47_z))
noncomputable abbrev zz47_k7 (N : Nat) : St → Option (Bool × (Y4 × Unit)) := fun st' => run (A_zz47) N (codeAt Try.f192 [1, 1, 1, 1, 1]) st' zz47_z
theorem zz47_after7 (N : Nat) (p0 : Y4) : zz47_X7 (zz47_k7 N) p0 = zz47_a7 p0 := by kernel_rfl
theorem zz47_in7 (N : Nat) (p0 : Y4) (x1 : Int) (y2 : Int) (t25 : Int) (t26 : Int) : zz47_R7 N N (zz47_K7 N) p0 x1 y2 t25 t26 = zz47_F7 N p0 x1 y2 t25 t26 :=
  have h : zz47_X7 (zz47_k7 N) = (zz47_a7) := (funext fun p0 => zz47_after7 N p0)
  ((iter_ex (fun st => by kernel_rfl) (fun st => by kernel_rfl)).trans (zz47_iter7 N (zz47_k7 N) (fun j st => (zz47_K7 N) (.exit j) st) N p0 x1 y2 t25 t26)).trans (congrArg (fun k => zz47_l7 N k N p0 x1 y2 t25 t26) h)
theorem run0_zz47 (N : Nat) (x : (S_zz47).a.den) : runF (A_zz47) N Try.f192 S_zz47 x = (zz47_s (zz47_R7 N N (zz47_K7 N)) x.1 x.2.1 x.2.2.1) := by kernel_rfl
theorem run_zz47 (N : Nat) (x : (S_zz47).a.den) : runF (A_zz47) N Try.f192 S_zz47 x = zz47 N x.1 x.2.1 x.2.2.1 := by
  refine (run0_zz47 N x).trans ?_
  rw [(funext fun p0 => (funext fun x1 => (funext fun y2 => (funext fun t25 => (funext fun t26 => zz47_in7 N p0 x1 y2 t25 t26)))))]
  rfl
theorem fn_zz47 : FnOk Try.prog 192 := ⟨_, Try.func192, by kernel_rfl, by kernel_rfl⟩
theorem good_zz47 : Gx.Good Try.prog 192 S_zz47 := good_of_run Try.func192 (of_decide_eq_true (by kernel_rfl)) fun x r h => ⟨A_zz47, big, mkCfg_ok tabOk, mkCfg_sigs (show SigsOk Try.prog [] from trivial), (run_zz47 big x).trans h⟩

/-! zz48 -/
def zz48_b13 (rec : Y4 → Y7 → Bool → Bool → Y6 → Int → Int → (List Y6) → Int → Int → Y4 → Int → Int → Option (Bool × (Y4 × Unit))) (k : Y4 → Y7 → Bool → Bool → Y6 → Int → Int → (List Y6) → Int → Int → Option (Bool × (Y4 × Unit))) (p1 : Y4) (a2 : Y7) (was5 : Bool) (changed6 : Bool) (f8 : Y6) (step9 : Int) (k10 : Int) (t16 : (List Y6)) (t17 : Int) (t18 : Int) (t29 : Y4) (t30 : Int) (t31 : Int) : Option (Bool × (Y4 × Unit)) :=
  cond (decide (t31 < t30))
  ((atI t29 t31).bind fun xq2 =>
  (quoI IntKind.i64 t31 step9).bind fun xq3 =>
  (remI xq3 a2.1).bind fun xq4 =>
  (atI p1 xq4).bind fun _ =>
  (p1[xq4.toNat]?).bind fun xq5 =>
  (atI f8.2.1 (IntKind.i64.wrap (t31 + (IntKind.i64.wrap ((IntKind.i64.wrap (xq5 - xq4)) * step9))))).bind fun xq6 =>
  (zz47 big p1 xq2 xq6).bind fun rq7 =>
  cond rq7.1
  (rec rq7.2.1 a2 true true f8 step9 k10 t16 t17 t18 t29 t30 (IntKind.i64.wrap (t31 + (1 : Int))))
  (rec rq7.2.1 a2 was5 changed6 f8 step9 k10 t16 t17 t18 t29 t30 (IntKind.i64.wrap (t31 + (1 : Int)))))
  (k p1 a2 was5 changed6 f8 step9 k10 t16 t17 t18)
def zz48_a13 (rec : Y4 → Y7 → Bool → Bool → Y6 → Int → Int → (List Y6) → Int → Int → Option (Bool × (Y4 × Unit))) (p1 : Y4) (a2 : Y7) (was5 : Bool) (changed6 : Bool) (f8 : Y6) (step9 : Int) (k10 : Int) (t16 : (List Y6)) (t17 : Int) (t18 : Int) : Option (Bool × (Y4 × Unit)) :=
  rec p1 a2 was5 changed6 f8 (IntKind.i64.wrap (step9 * a2.1)) (IntKind.i64.wrap (k10 + (1 : Int))) t16 t17 t18
def zz48_b10 (L13 : Y4 → Y7 → Bool → Bool → Y6 → Int → Int → (List Y6) → Int → Int → Y4 → Int → Int → Option (Bool × (Y4 × Unit))) (k : Y4 → Y7 → Bool → Bool → (List Y6) → Int → Int → Option (Bool × (Y4 × Unit))) (p1 : Y4) (a2 : Y7) (was5 : Bool) (changed6 : Bool) (f8 : Y6) (step9 : Int) (k10 : Int) (t16 : (List Y6)) (t17 : Int) (t18 : Int) : Option (Bool × (Y4 × Unit)) :=
  cond (decide (k10 < f8.1))
  (L13 p1 a2 was5 changed6 f8 step9 k10 t16 t17 t18 f8.2.1 (f8.2.1.length : Int) (0 : Int))
  (k p1 a2 was5 changed6 t16 t17 t18)
def zz48_a10 (rec : Y4 → Y7 → Bool → Bool → (List Y6) → Int → Int → Option (Bool × (Y4 × Unit))) (p1 : Y4) (a2 : Y7) (was5 : Bool) (changed6 : Bool) (t16 : (List Y6)) (t17 : Int) (t18 : Int) : Option (Bool × (Y4 × Unit)) :=
  rec p1 a2 was5 changed6 t16 t17 (IntKind.i64.wrap (t18 + (1 : Int)))
def zz48_b6 (L10 : Y4 → Y7 → Bool → Bool → Y6 → Int → Int → (List Y6) → Int → Int → Option (Bool × (Y4 × Unit))) (k : Y4 → Y7 → Bool → Bool → Option (Bool × (Y4 × Unit))) (p1 : Y4) (a2 : Y7) (was5 : Bool) (changed6 : Bool) (t16 : (List Y6)) (t17 : Int) (t18 : Int) : Option (Bool × (Y4 × Unit)) :=
  cond (decide (t18 < t17))
  ((atI t16 t18).bind fun xq1 =>
  L10 p1 a2 was5 changed6 xq1 (1 : Int) (0 : Int) t16 t17 t18)
  (k p1 a2 was5 changed6)
def zz48_a6 (rec : Y4 → Y7 → Bool → Bool → Option (Bool × (Y4 × Unit))) (p1 : Y4) (a2 : Y7) (was5 : Bool) (changed6 : Bool) : Option (Bool × (Y4 × Unit)) :=
  rec p1 a2 was5 changed6
def zz48_b3 (L6 : Y4 → Y7 → Bool → Bool → (List Y6) → Int → Int → Option (Bool × (Y4 × Unit))) (k : Y4 → Bool → Option (Bool × (Y4 × Unit))) (p1 : Y4) (a2 : Y7) (was5 : Bool) (changed6 : Bool) : Option (Bool × (Y4 × Unit)) :=
  cond changed6
  (L6 p1 a2 was5 false a2.2.1 (a2.2.1.length : Int) (0 : Int))
  (k p1 was5)
def zz48_a3 (p1 : Y4) (was5 : Bool) : Option (Bool × (Y4 × Unit)) :=
  some (was5, (p1, ()))
def zz48_s (L3 : Y4 → Y7 → Bool → Bool → Option (Bool × (Y4 × Unit))) (a_0 : Y7) (p_1 : Y4) : Option (Bool × (Y4 × Unit)) :=
  L3 p_1 a_0 false true
def zz48_l13 (N : Nat) (k : Y4 → Y7 → Bool → Bool → Y6 → Int → Int → (List Y6) → Int → Int → Option (Bool × (Y4 × Unit))) : Nat → Y4 → Y7 → Bool → Bool → Y6 → Int → Int → (List Y6) → Int → Int → Y4 → Int → Int → Option (Bool × (Y4 × Unit))
  | 0, _, _, _, _, _, _, _, _, _, _, _, _, _ => none
  | m + 1, p1, a2, was5, changed6, f8, step9, k10, t16, t17, t18, t29, t30, t31 => zz48_b13 (zz48_l13 N k m) k p1 a2 was5 changed6 f8 step9 k10 t16 t17 t18 t29 t30 t31
def zz48_F13 (N : Nat) (rec : Y4 → Y7 → Bool → Bool → Y6 → Int → Int → (List Y6) → Int → Int → Option (Bool × (Y4 × Unit))) (k : Y4 → Y7 → Bool → Bool → (List Y6) → Int → Int → Option (Bool × (Y4 × Unit))) (p1 : Y4) (a2 : Y7) (was5 : Bool) (changed6 : Bool) (f8 : Y6) (step9 : Int) (k10 : Int) (t16 : (List Y6)) (t17 : Int) (t18 : Int) (t29 : Y4) (t30 : Int) (t31 : Int) : Option (Bool × (Y4 × Unit)) := zz48_l13 N (zz48_a13 rec) N p1 a2 was5 changed6 f8 step9 k10 t16 t17 t18 t29 t30 t31
def zz48_l10 (N : Nat) (k : Y4 → Y7 → Bool → Bool → (List Y6) → Int → Int → Option (Bool × (Y4 × Unit))) : Nat → Y4 → Y7 → Bool → Bool → Y6 → Int → Int → (List Y6) → Int → Int → Option (Bool × (Y4 × Unit))
  | 0, _, _, _, _, _, _, _, _, _, _ => none
  | m + 1, p1, a2, was5, changed6, f8, step9, k10, t16, t17, t18 => zz48_b10 (zz48_F13 N (zz48_l10 N k m) k) k p1 a2 was5 changed6 f8 step9 k10 t16 t17 t18
def zz48_F10 (N : Nat) (rec : Y4 → Y7 → Bool → Bool → (List Y6) → Int → Int → Option (Bool × (Y4 × Unit))) (k : Y4 → Y7 → Bool → Bool → Option (Bool × (Y4 × Unit))) (p1 : Y4) (a2 : Y7) (was5 : Bool) (changed6 : Bool) (f8 : Y6) (step9 : Int) (k10 : Int) (t16 : (List Y6)) (t17 : Int) (t18 : Int) : Option (Bool × (Y4 × Unit)) := zz48_l10 N (zz48_a10 rec) N p1 a2 was5 changed6 f8 step9 k10 t16 t17 t18
def zz48_l6 (N : Nat) (k : Y4 → Y7 → Bool → Bool → Option (Bool × (Y4 × Unit))) : Nat → Y4 → Y7 → Bool → Bool → (List Y6) → Int → Int → Option (Bool × (Y4 × Unit))
  | 0, _, _, _, _, _, _, _ => none
  | m + 1, p1, a2, was5, changed6, t16, t17, t18 => zz48_b6 (zz48_F10 N (zz48_l6 N k m) k) k p1 a2 was5 changed6 t16 t17 t18
def zz48_F6 (N : Nat) (rec : Y4 → Y7 → Bool → Bool → Option (Bool × (Y4 × Unit))) (k : Y4 → Bool → Option (Bool × (Y4 × Unit))) (p1 : Y4) (a2 : Y7) (was5 : Bool) (changed6 : Bool) (t16 : (List Y6)) (t17 : Int) (t18 : Int) : Option (Bool × (Y4 × Unit)) := zz48_l6 N (zz48_a6 rec) N p1 a2 was5 changed6 t16 t17 t18
def zz48_l3 (N : Nat) (k : Y4 → Bool → Option (Bool × (Y4 × Unit))) : Nat → Y4 → Y7 → Bool → Bool → Option (Bool × (Y4 × Unit))
  | 0, _, _, _, _ => none
  | m + 1, p1, a2, was5, changed6 => zz48_b3 (zz48_F6 N (zz48_l3 N k m) k) k p1 a2 was5 changed6
def zz48_F3 (N : Nat) (p1 : Y4) (a2 : Y7) (was5 : Bool) (changed6 : Bool) : Option (Bool × (Y4 × Unit)) := zz48_l3 N (zz48_a3) N p1 a2 was5 changed6
def zz48 (N : Nat) (a_0 : Y7) (p_1 : Y4) : Option (Bool × (Y4 × Unit)) := zz48_s (zz48_F3 N) a_0 p_1
def S_zz48 : Sig := { a := (.pair (.pair I (.pair (.sl (.pair I (.pair (.sl I) .unit))) .unit)) (.pair (.sl I) .unit)), md := [0, 1], mf := [(.o .i)], m := (.pair (.sl I) .unit), r := .bool, rf := .i, f := fun x => zz48 big x.1 x.2.1 }
def A_zz48 : Cfg := mkCfg tab [(192, S_zz47)] [(6, [.drop, .as (.sl I) (.o .i), .as (.ptr (.pair I (.pair (.sl (.pair I (.pair (.sl I) .unit))) .unit))) (.o .i), .drop, .drop, .as .bool .i, .as .bool .i]), (12, [.drop, .as (.sl I) (.o .i), .as (.ptr (.pair I (.pair (.sl (.pair I (.pair (.sl I) .unit))) .unit))) (.o .i), .drop, .drop, .as .bool .i, .as .bool .i, .drop, .drop, .drop, .drop, .drop, .drop, .drop, .drop, .drop, .as (.sl (.pair I (.pair (.sl I) .unit))) .i, .as I .i, .as I .i]), (43, [.drop, .as (.sl I) (.o .i), .drop, .drop, .drop, .as .bool .i]), (20, [.drop, .as (.sl I) (.o .i), .as (.ptr (.pair I (.pair (.sl (.pair I (.pair (.sl I) .unit))) .unit))) (.o .i), .drop, .drop, .as .bool .i, .as .bool .i, .drop, .as (.ptr (.pair I (.pair (.sl I) .unit))) (.o .i), .as I .i, .as I .i, .drop, .drop, .drop, .drop, .drop, .as (.sl (.pair I (.pair (.sl I) .unit))) .i, .as I .i, .as I .i]), (26, [.drop, .as (.sl I) (.o .i), .as (.ptr (.pair I (.pair (.sl (.pair I (.pair (.sl I) .unit))) .unit))) (.o .i), .drop, .drop, .as .bool .i, .as .bool .i, .drop, .as (.ptr (.pair I (.pair (.sl I) .unit))) (.o .i), .as I .i, .as I .i, .drop, .drop, .drop, .drop, .drop, .as (.sl (.pair I (.pair (.sl I) .unit))) .i, .as I .i, .as I .i, .drop, .drop, .drop, .drop, .drop, .drop, .drop, .drop, .drop, .drop, .as (.sl I) .i, .as I .i, .as I .i]), (41, [.drop, .as (.sl I) (.o .i), .as (.ptr (.pair I (.pair (.sl (.pair I (.pair (.sl I) .unit))) .unit))) (.o .i), .drop, .drop, .as .bool .i, .as .bool .i, .drop, .drop, .drop, .drop, .drop, .drop, .drop, .drop, .drop, .as (.sl (.pair I (.pair (.sl I) .unit))) .i, .as I .i, .as I .i]), (39, [.drop, .as (.sl I) (.o .i), .as (.ptr (.pair I (.pair (.sl (.pair I (.pair (.sl I) .unit))) .unit))) (.o .i), .drop, .drop, .as .bool .i, .as .bool .i, .drop, .as (.ptr (.pair I (.pair (.sl I) .unit))) (.o .i), .as I .i, .as I .i, .drop, .drop, .drop, .drop, .drop, .as (.sl (.pair I (.pair (.sl I) .unit))) .i, .as I .i, .as I .i])]
noncomputable def zz48_R3 (N n : Nat) (K : Ex → St → Option (Bool × (Y4 × Unit))) (p1 : Y4) (a2 : Y7) (was5 : Bool) (changed6 : Bool) : Option (Bool × (Y4 × Unit)) := iter ((A_zz48).shape 6) (run (A_zz48) N (codeAt Try.f143 [1, 1, 0, 1, 0, 0])) n ([.u, .val (.sl I) (.o .i) p1, .val (.ptr (.pair I (.pair (.sl (.pair I (.pair (.sl I) .unit))) .unit))) (.o .i) a2, .u, .u, .val .bool .i was5, .val .bool .i changed6] ++ List.replicate 59 .u) K
noncomputable def zz48_R6 (N n : Nat) (K : Ex → St → Option (Bool × (Y4 × Unit))) (p1 : Y4) (a2 : Y7) (was5 : Bool) (changed6 : Bool) (t16 : (List Y6)) (t17 : Int) (t18 : Int) : Option (Bool × (Y4 × Unit)) := iter ((A_zz48).shape 12) (run (A_zz48) N (codeAt Try.f143 [1, 1, 0, 1, 0, 0, 1, 0, 1, 1, 0, 0])) n ([.u, .val (.sl I) (.o .i) p1, .val (.ptr (.pair I (.pair (.sl (.pair I (.pair (.sl I) .unit))) .unit))) (.o .i) a2, .u, .u, .val .bool .i was5, .val .bool .i changed6, .u, .u, .u, .u, .u, .u, .u, .u, .u, .val (.sl (.pair I (.pair (.sl I) .unit))) .i t16, .val I .i t17, .val I .i t18] ++ List.replicate 47 .u) K
noncomputable def zz48_R10 (N n : Nat) (K : Ex → St → Option (Bool × (Y4 × Unit))) (p1 : Y4) (a2 : Y7) (was5 : Bool) (changed6 : Bool) (f8 : Y6) (step9 : Int) (k10 : Int) (t16 : (List Y6)) (t17 : Int) (t18 : Int) : Option (Bool × (Y4 × Unit)) := iter ((A_zz48).shape 20) (run (A_zz48) N (codeAt Try.f143 [1, 1, 0, 1, 0, 0, 1, 0, 1, 1, 0, 0, 1, 1, 0, 0, 1, 1, 1, 0, 0])) n ([.u, .val (.sl I) (.o .i) p1, .val (.ptr (.pair I (.pair (.sl (.pair I (.pair (.sl I) .unit))) .unit))) (.o .i) a2, .u, .u, .val .bool .i was5, .val .bool .i changed6, .u, .val (.ptr (.pair I (.pair (.sl I) .unit))) (.o .i) f8, .val I .i step9, .val I .i k10, .u, .u, .u, .u, .u, .val (.sl (.pair I (.pair (.sl I) .unit))) .i t16, .val I .i t17, .val I .i t18] ++ List.replicate 47 .u) K
noncomputable def zz48_R13 (N n : Nat) (K : Ex → St → Option (Bool × (Y4 × Unit))) (p1 : Y4) (a2 : Y7) (was5 : Bool) (changed6 : Bool) (f8 : Y6) (step9 : Int) (k10 : Int) (t16 : (List Y6)) (t17 : Int) (t18 : Int) (t29 : Y4) (t30 : Int) (t31 : Int) : Option (Bool × (Y4 × Unit)) := iter ((A_zz48).shape 26) (run (A_zz48) N (codeAt Try.f143 [1, 1, 0, 1, 0, 0, 1, 0, 1, 1, 0, 0, 1, 1, 0, 0, 1, 1, 1, 0, 0, 1, 0, 0, 0, 1, 0, 0])) n ([.u, .val (.sl I) (.o .i) p1, .val (.ptr (.pair I (.pair (.sl (.pair I (.pair (.sl I) .unit))) .unit))) (.o .i) a2, .u, .u, .val .bool .i was5, .val .bool .i changed6, .u, .val (.ptr (.pair I (.pair (.sl I) .unit))) (.o .i) f8, .val I .i step9, .val I .i k10, .u, .u, .u, .u, .u, .val (.sl (.pair I (.pair (.sl I) .unit))) .i t16, .val I .i t17, .val I .i t18, .u, .u, .u, .u, .u, .u, .u, .u, .u, .u, .val (.sl I) .i t29, .val I .i t30, .val I .i t31] ++ List.replicate 34 .u) K
noncomputable abbrev zz48_z : Ex → St → Option (Bool × (Y4 × Unit)) := finish (A_zz48) S_zz48 Try.f143.results.toList
noncomputable abbrev zz48_X3 (kX : St → Option (Bool × (Y4 × Unit))) : Y4 → Bool → Option (Bool × (Y4 × Unit)) := fun (p1 : Y4) (was5 : Bool) => kX ([.u, .val (.sl I) (.o .i) p1, .u, .u, .u, .val .bool .i was5] ++ List.replicate 60 .u)
noncomputable abbrev zz48_E3 (kX : St → Option (Bool × (Y4 × Unit))) (kO : Nat → St → Option (Bool × (Y4 × Unit))) : Ex → St → Option (Bool × (Y4 × Unit)) := exK zz48_z 0 ((A_zz48).shape 43) kX kO
noncomputable abbrev zz48_X6 (kX : St → Option (Bool × (Y4 × Unit))) : Y4 → Y7 → Bool → Bool → Option (Bool × (Y4 × Unit)) := fun (p1 : Y4) (a2 : Y7) (was5 : Bool) (changed6 : Bool) => kX ([.u, .val (.sl I) (.o .i) p1, .val (.ptr (.pair I (.pair (.sl (.pair I (.pair (.sl I) .unit))) .unit))) (.o .i) a2, .u, .u, .val .bool .i was5, .val .bool .i changed6] ++ List.replicate 59 .u)
noncomputable abbrev zz48_E6 (kX : St → Option (Bool × (Y4 × Unit))) (kO : Nat → St → Option (Bool × (Y4 × Unit))) : Ex → St → Option (Bool × (Y4 × Unit)) := exK zz48_z 2 ((A_zz48).shape 6) kX kO
noncomputable abbrev zz48_X10 (kX : St → Option (Bool × (Y4 × Unit))) : Y4 → Y7 → Bool → Bool → (List Y6) → Int → Int → Option (Bool × (Y4 × Unit)) := fun (p1 : Y4) (a2 : Y7) (was5 : Bool) (changed6 : Bool) (t16 : (List Y6)) (t17 : Int) (t18 : Int) => kX ([.u, .val (.sl I) (.o .i) p1, .val (.ptr (.pair I (.pair (.sl (.pair I (.pair (.sl I) .unit))) .unit))) (.o .i) a2, .u, .u, .val .bool .i was5, .val .bool .i changed6, .u, .u, .u, .u, .u, .u, .u, .u, .u, .val (.sl (.pair I (.pair (.sl I) .unit))) .i t16, .val I .i t17, .val I .i t18] ++ List.replicate 47 .u)
noncomputable abbrev zz48_E10 (kX : St → Option (Bool × (Y4 × Unit))) (kO : Nat → St → Option (Bool × (Y4 × Unit))) : Ex → St → Option (Bool × (Y4 × Unit)) := exK zz48_z 4 ((A_zz48).shape 41) kX kO
noncomputable abbrev zz48_X13 (kX : St → Option (Bool × (Y4 × Unit))) : Y4 → Y7 → Bool → Bool → Y6 → Int → Int → (List Y6) → Int → Int → Option (Bool × (Y4 × Unit)) := fun (p1 : Y4) (a2 : Y7) (was5 : Bool) (changed6 : Bool) (f8 : Y6) (step9 : Int) (k10 : Int) (t16 : (List Y6)) (t17 : Int) (t18 : Int) => kX ([.u, .val (.sl I) (.o .i) p1, .val (.ptr (.pair I (.pair (.sl (.pair I (.pair (.sl I) .unit))) .unit))) (.o .i) a2, .u, .u, .val .bool .i was5, .val .bool .i changed6, .u, .val (.ptr (.pair I (.pair (.sl I) .unit))) (.o .i) f8, .val I .i step9, .val I .i k10, .u, .u, .u, .u, .u, .val (.sl (.pair I (.pair (.sl I) .unit))) .i t16, .val I .i t17, .val I .i t18] ++ List.replicate 47 .u)
noncomputable abbrev zz48_E13 (kX : St → Option (Bool × (Y4 × Unit))) (kO : Nat → St → Option (Bool × (Y4 × Unit))) : Ex → St → Option (Bool × (Y4 × Unit)) := exK zz48_z 6 ((A_zz48).shape 39) kX kO
theorem zz48_step13 (N : Nat) (m : Nat) (kX : St → Option (Bool × (Y4 × Unit))) (kO : Nat → St → Option (Bool × (Y4 × Unit))) (p1 : Y4) (a2 : Y7) (was5 : Bool) (changed6 : Bool) (f8 : Y6) (step9 : Int) (k10 : Int) (t16 : (List Y6)) (t17 : Int) (t18 : Int) (t29 : Y4) (t30 : Int) (t31 : Int) : zz48_R13 N (m + 1) (zz48_E13 kX kO) p1 a2 was5 changed6 f8 step9 k10 t16 t17 t18 t29 t30 t31 = zz48_b13 (zz48_R13 N m (zz48_E13 kX kO)) (zz48_X13 kX) p1 a2 was5 changed6 f8 step9 k10 t16 t17 t18 t29 t30 t31 := by kernel_rfl
theorem zz48_iter13 (N : Nat) (kX : St → Option (Bool × (Y4 × Unit))) (kO : Nat → St → Option (Bool × (Y4 × Unit))) : ∀ (n : Nat) (p1 : Y4) (a2 : Y7) (was5 : Bool) (changed6 : Bool) (f8 : Y6) (step9 : Int) (k10 : Int) (t16 : (List Y6)) (t17 : Int) (t18 : Int) (t29 : Y4) (t30 : Int) (t31 : Int), zz48_R13 N n (zz48_E13 kX kO) p1 a2 was5 changed6 f8 step9 k10 t16 t17 t18 t29 t30 t31 = zz48_l13 N (zz48_X13 kX) n p1 a2 was5 changed6 f8 step9 k10 t16 t17 t18 t29 t30 t31
  | 0, _, _, _, _, _, _, _, _, _, _, _, _, _ => rfl
  | m + 1, p1, a2, was5, changed6, f8, step9, k10, t16, t17, t18, t29, t30, t31 => by
    have hrec : zz48_R13 N m (zz48_E13 kX kO) = (zz48_l13 N (zz48_X13 kX) m) := (funext fun p1 => (funext fun a2 => (funext fun was5 => (funext fun changed6 => (funext fun f8 => (funext fun step9 => (funext fun k10 => (funext fun t16 => (funext fun t17 => (funext fun t18 => (funext fun t29 => (funext fun t30 => (funext fun t31 => zz48_iter13 N kX kO m p1 a2 was5 changed6 f8 step9 k10 t16 t17 t18 t29 t30 t31)))))))))))))
    refine (zz48_step13 N m kX kO p1 a2 was5 changed6 f8 step9 k10 t16 t17 t18 t29 t30 t31).trans ?_
    rw [hrec]
    rfl
noncomputable abbrev zz48_K13 (N : Nat) (m : Nat) (kX : St → Option (Bool × (Y4 × Unit))) (kO : Nat → St → Option (Bool × (Y4 × Unit))) : Ex → St → Option (Bool × (Y4 × Unit)) := (blockK 6 (seqK ((A_zz48).shape 39) (run (A_zz48) N (codeAt Try.f143 [1, 1, 0, 1, 0, 0, 1, 0, 1, 1, 0, 0, 1, 1, 0, 0, 1, 1, 1, 0, 0, 1, 0, 0, 1])) (blockK 5 (seqK ((A_zz48).shape 23) (run (A_zz48) N (codeAt Try.f143 [1, 1, 0, 1, 0, 0, 1, 0, 1, 1, 0, 0, 1, 1, 0, 0, 1, 1, 1, 0, 0, 1, 1])) (iterK ((A_zz48).shape 20) (run (A_zz48) N (codeAt Try.f143 [1, 1, 0, 1, 0, 0, 1, 0, 1, 1, 0, 0, 1, 1, 0, 0, 1, 1, 1, 0, 0])) m (zz48_E10 kX kO))))))
noncomputable abbrev zz48_k13 (N : Nat) (m : Nat) (kX : St → Option (Bool × (Y4 × Unit))) (kO : Nat → St → Option (Bool × (Y4 × Unit))) : St → Option (Bool × (Y4 × Unit)) := fun st' => run (A_zz48) N (codeAt Try.f143 [1, 1, 0, 1, 0, 0, 1, 0, 1, 1, 0, 0, 1, 1, 0, 0, 1, 1, 1, 0, 0, 1, 0, 0, 1]) st' (blockK 5 (seqK ((A_zz48).shape 23) (run (A_zz48) N (codeAt Try.f143 [1, 1, 0, 1, 0, 0, 1, 0, 1, 1, 0, 0, 1, 1, 0, 0, 1, 1, 1, 0, 0, 1, 1])) (iterK ((A_zz48).shape 20) (run (A_zz48) N (codeAt Try.f143 [1, 1, 0, 1, 0, 0, 1, 0, 1, 1, 0, 0, 1, 1, 0, 0, 1, 1, 1, 0, 0])) m (zz48_E10 kX kO))))
theorem zz48_after13 (N : Nat) (m : Nat) (kX : St → Option (Bool × (Y4 × Unit))) (kO : Nat → St → Option (Bool × (Y4 × Unit))) (p1 : Y4) (a2 : Y7) (was5 : Bool) (changed6 : Bool) (f8 : Y6) (step9 : Int) (k10 : Int) (t16 : (List Y6)) (t17 : Int) (t18 : Int) : zz48_X13 (zz48_k13 N m kX kO) p1 a2 was5 changed6 f8 step9 k10 t16 t17 t18 = zz48_a13 (zz48_R10 N m (zz48_E10 kX kO)) p1 a2 was5 changed6 f8 step9 k10 t16 t17 t18 := by kernel_rfl
theorem zz48_in13 (N : Nat) (m : Nat) (kX : St → Option (Bool × (Y4 × Unit))) (kO : Nat → St → Option (Bool × (Y4 × Unit))) (recF : Y4 → Y7 → Bool → Bool → Y6 → Int → Int → (List Y6) → Int → Int → Option (Bool × (Y4 × Unit))) (hrec : zz48_R10 N m (zz48_E10 kX kO) = recF) (p1 : Y4) (a2 : Y7) (was5 : Bool) (changed6 : Bool) (f8 : Y6) (step9 : Int) (k10 : Int) (t16 : (List Y6)) (t17 : Int) (t18 : Int) (t29 : Y4) (t30 : Int) (t31 : Int) : zz48_R13 N N (zz48_K13 N m kX kO) p1 a2 was5 changed6 f8 step9 k10 t16 t17 t18 t29 t30 t31 = zz48_F13 N recF (zz48_X10 kX) p1 a2 was5 changed6 f8 step9 k10 t16 t17 t18 t29 t30 t31 :=
  have h : zz48_X13 (zz48_k13 N m kX kO) = (zz48_a13 recF) := (funext fun p1 => (funext fun a2 => (funext fun was5 => (funext fun changed6 => (funext fun f8 => (funext fun step9 => (funext fun k10 => (funext fun t16 => (funext fun t17 => (funext fun t18 => (zz48_after13 N m kX kO p1 a2 was5 changed6 f8 step9 k10 t16 t17 t18).trans (by rw [hrec])))))))))))
  ((iter_ex (fun st => by kernel_rfl) (fun st => by kernel_rfl)).trans (zz48_iter13 N (zz48_k13 N m kX kO) (fun j st => (zz48_K13 N m kX kO) (.exit j) st) N p1 a2 was5 changed6 f8 step9 k10 t16 t17 t18 t29 t30 t31)).trans (congrArg (fun k => zz48_l13 N k N p1 a2 was5 changed6 f8 step9 k10 t16 t17 t18 t29 t30 t31) h)
theorem zz48_step10 (N : Nat) (m : Nat) (kX : St → Option (Bool × (Y4 × Unit))) (kO : Nat → St → Option (Bool × (Y4 × Unit))) (p1 : Y4) (a2 : Y7) (was5 : Bool) (changed6 : Bool) (f8 : Y6) (step9 : Int) (k10 : Int) (t16 : (List Y6)) (t17 : Int) (t18 : Int) : zz48_R10 N (m + 1) (zz48_E10 kX kO) p1 a2 was5 changed6 f8 step9 k10 t16 t17 t18 = zz48_b10 (zz48_R13 N N (zz48_K13 N m kX kO)) (zz48_X10 kX) p1 a2 was5 changed6 f8 step9 k10 t16 t17 t18 := by kernel_rfl
theorem zz48_iter10 (N : Nat) (kX : St → Option (Bool × (Y4 × Unit))) (kO : Nat → St → Option (Bool × (Y4 × Unit))) : ∀ (n : Nat) (p1 : Y4) (a2 : Y7) (was5 : Bool) (changed6 : Bool) (f8 : Y6) (step9 : Int) (k10 : Int) (t16 : (List Y6)) (t17 : Int) (t18 : Int), zz48_R10 N n (zz48_E10 kX kO) p1 a2 was5 changed6 f8 step9 k10 t16 t17 t18 = zz48_l10 N (zz48_X10 kX) n p1 a2 was5 changed6 f8 step9 k10 t16 t17 t18
  | 0, _, _, _, _, _, _, _, _, _, _ => rfl
  | m + 1, p1, a2, was5, changed6, f8, step9, k10, t16, t17, t18 => by
    have hrec : zz48_R10 N m (zz48_E10 kX kO) = (zz48_l10 N (zz48_X10 kX) m) := (funext fun p1 => (funext fun a2 => (funext fun was5 => (funext fun changed6 => (funext fun f8 => (funext fun step9 => (funext fun k10 => (funext fun t16 => (funext fun t17 => (funext fun t18 => zz48_iter10 N kX kO m p1 a2 was5 changed6 f8 step9 k10 t16 t17 t18))))))))))
    refine (zz48_step10 N m kX kO p1 a2 was5 changed6 f8 step9 k10 t16 t17 t18).trans ?_
    rw [(funext fun p1 => (funext fun a2 => (funext fun was5 => (funext fun changed6 => (funext fun f8 => (funext fun step9 => (funext fun k10 => (funext fun t16 => (funext fun t17 => (funext fun t18 => (funext fun t29 => (funext fun t30 => (funext fun t31 => zz48_in13 N m kX kO (zz48_l10 N (zz48_X10 kX) m) hrec p1 a2 was5 changed6 f8 step9 k10 t16 t17 t18 t29 t30 t31)))))))))))))]
    rfl
noncomputable abbrev zz48_K10 (N : Nat) (m : Nat) (kX : St → Option (Bool × (Y4 × Unit))) (kO : Nat → St → Option (Bool × (Y4 × Unit))) : Ex → St → Option (Bool × (Y4 × Unit)) := (blockK 4 (blockK 3 (seqK ((A_zz48).shape 41) (run (A_zz48) N (codeAt Try.f143 [1, 1, 0, 1, 0, 0, 1, 0, 1, 1, 0, 0, 1, 1, 1])) (iterK ((A_zz48).shape 12) (run (A_zz48) N (codeAt Try.f143 [1, 1, 0, 1, 0, 0, 1, 0, 1, 1, 0, 0])) m (zz48_E6 kX kO)))))
noncomputable abbrev zz48_k10 (N : Nat) (m : Nat) (kX : St → Option (Bool × (Y4 × Unit))) (kO : Nat → St → Option (Bool × (Y4 × Unit))) : St → Option (Bool × (Y4 × Unit)) := fun st' => run (A_zz48) N (codeAt Try.f143 [1, 1, 0, 1, 0, 0, 1, 0, 1, 1, 0, 0, 1, 1, 1]) st' (iterK ((A_zz48).shape 12) (run (A_zz48) N (codeAt Try.f143 [1, 1, 0, 1, 0, 0, 1, 0, 1, 1, 0, 0])) m (zz48_E6 kX kO))
theorem zz48_after10 (N : Nat) (m : Nat) (kX : St → Option (Bool × (Y4 × Unit))) (kO : Nat → St → Option (Bool × (Y4 × Unit))) (p1 : Y4) (a2 : Y7) (was5 : Bool) (changed6 : Bool) (t16 : (List Y6)) (t17 : Int) (t18 : Int) : zz48_X10 (zz48_k10 N m kX kO) p1 a2 was5 changed6 t16 t17 t18 = zz48_a10 (zz48_R6 N m (zz48_E6 kX kO)) p1 a2 was5 changed6 t16 t17 t18 := by kernel_rfl
theorem zz48_in10 (N : Nat) (m : Nat) (kX : St → Option (Bool × (Y4 × Unit))) (kO : Nat → St → Option (Bool × (Y4 × Unit))) (recF : Y4 → Y7 → Bool → Bool → (List Y6) → Int → Int → Option (Bool × (Y4 × Unit))) (hrec : zz48_R6 N m (zz48_E6 kX kO) = recF) (p1 : Y4) (a2 : Y7) (was5 : Bool) (changed6 : Bool) (f8 : Y6) (step9 : Int) (k10 : Int) (t16 : (List Y6)) (t17 : Int) (t18 : Int) : zz48_R10 N N (zz48_K10 N m kX kO) p1 a2 was5 changed6 f8 step9 k10 t16 t17 t18 = zz48_F10 N recF (zz48_X6 kX) p1 a2 was5 changed6 f8 step9 k10 t16 t17 t18 :=
  have h : zz48_X10 (zz48_k10 N m kX kO) = (zz48_a10 recF) := (funext fun p1 => (funext fun a2 => (funext fun was5 => (funext fun changed6 => (funext fun t16 => (funext fun t17 => (funext fun t18 => (zz48_after10 N m kX kO p1 a2 was5 changed6 t16 t17 t18).trans (by rw [hrec]))))))))
  ((iter_ex (fun st => by kernel_rfl) (fun st => by kernel_rfl)).trans (zz48_iter10 N (zz48_k10 N m kX kO) (fun j st => (zz48_K10 N m kX kO) (.exit j) st) N p1 a2 was5 changed6 f8 step9 k10 t16 t17 t18)).trans (congrArg (fun k => zz48_l10 N k N p1 a2 was5 changed6 f8 step9 k10 t16 t17 t18) h)
theorem zz48_step6 (N : Nat) (m : Nat) (kX : St → Option (Bool × (Y4 × Unit))) (kO : Nat → St → Option (Bool × (Y4 × Unit))) (p1 : Y4) (a2 : Y7) (was5 : Bool) (changed6 : Bool) (t16 : (List Y6)) (t17 : Int) (t18 : Int) : zz48_R6 N (m + 1) (zz48_E6 kX kO) p1 a2 was5 changed6 t16 t17 t18 = zz48_b6 (zz48_R10 N N (zz48_K10 N m kX kO)) (zz48_X6 kX) p1 a2 was5 changed6 t16 t17 t18 := by kernel_rfl
theorem zz48_iter6 (N : Nat) (kX : St → Option (Bool × (Y4 × Unit))) (kO : Nat → St → Option (Bool × (Y4 × Unit))) : ∀ (n : Nat) (p1 : Y4) (a2 : Y7) (was5 : Bool) (changed6 : Bool) (t16 : (List Y6)) (t17 : Int) (t18 : Int), zz48_R6 N n (zz48_E6 kX kO) p1 a2 was5 changed6 t16 t17 t18 = zz48_l6 N (zz48_X6 kX) n p1 a2 was5 changed6 t16 t17 t18
  | 0, _, _, _, _, _, _, _ => rfl
  | m + 1, p1, a2, was5, changed6, t16, t17, t18 => by
    have hrec : zz48_R6 N m (zz48_E6 kX kO) = (zz48_l6 N (zz48_X6 kX) m) := (funext fun p1 => (funext fun a2 => (funext fun was5 => (funext fun changed6 => (funext fun t16 => (funext fun t17 => (funext fun t18 => zz48_iter6 N kX kO m p1 a2 was5 changed6 t16 t17 t18)))))))
    refine (zz48_step6 N m kX kO p1 a2 was5 changed6 t16 t17 t18).trans ?_
    rw [(funext fun p1 => (funext fun a2 => (funext fun was5 => (funext fun changed6 => (funext fun f8 => (funext fun step9 => (funext fun k10 => (funext fun t16 => (funext fun t17 => (funext fun t18 => zz48_in10 N m kX kO (zz48_l6 N (zz48_X6 kX) m) hrec p1 a2 was5 changed6 f8 step9 k10 t16 t17 t18))))))))))]
    rfl
noncomputable abbrev zz48_K6 (N : Nat) (m : Nat) (kX : St → Option (Bool × (Y4 × Unit))) (kO : Nat → St → Option (Bool × (Y4 × Unit))) : Ex → St → Option (Bool × (Y4 × Unit)) := (blockK 2 (blockK 1 (iterK ((A_zz48).shape 6) (run (A_zz48) N (codeAt Try.f143 [1, 1, 0, 1, 0, 0])) m (zz48_E3 kX kO))))
noncomputable abbrev zz48_k6 (N : Nat) (m : Nat) (kX : St → Option (Bool × (Y4 × Unit))) (kO : Nat → St → Option (Bool × (Y4 × Unit))) : St → Option (Bool × (Y4 × Unit)) := fun st' => iter ((A_zz48).shape 6) (run (A_zz48) N (codeAt Try.f143 [1, 1, 0, 1, 0, 0])) m st' (zz48_E3 kX kO)
theorem zz48_after6 (N : Nat) (m : Nat) (kX : St → Option (Bool × (Y4 × Unit))) (kO : Nat → St → Option (Bool × (Y4 × Unit))) (p1 : Y4) (a2 : Y7) (was5 : Bool) (changed6 : Bool) : zz48_X6 (zz48_k6 N m kX kO) p1 a2 was5 changed6 = zz48_a6 (zz48_R3 N m (zz48_E3 kX kO)) p1 a2 was5 changed6 := by kernel_rfl
theorem zz48_in6 (N : Nat) (m : Nat) (kX : St → Option (Bool × (Y4 × Unit))) (kO : Nat → St → Option (Bool × (Y4 × Unit))) (recF : Y4 → Y7 → Bool → Bool → Option (Bool × (Y4 × Unit))) (hrec : zz48_R3 N m (zz48_E3 kX kO) = recF) (p1 : Y4) (a2 : Y7) (was5 : Bool) (changed6 : Bool) (t16 : (List Y6)) (t17 : Int) (t18 : Int) : zz48_R6 N N (zz48_K6 N m kX kO) p1 a2 was5 changed6 t16 t17 t18 = zz48_F6 N recF (zz48_X3 kX) p1 a2 was5 changed6 t16 t17 t18 :=
  have h : zz48_X6 (zz48_k6 N m kX kO) = (zz48_a6 recF) := (funext fun p1 => (funext fun a2 => (funext fun was5 => (funext fun changed6 => (zz48_after6 N m kX kO p1 a2 was5 changed6).trans (by rw [hrec])))))
  ((iter_ex (fun st => by kernel_rfl) (fun st => by kernel_rfl)).trans (zz48_iter6 N (zz48_k6 N m kX kO) (fun j st => (zz48_K6 N m kX kO) (.exit j) st) N p1 a2 was5 changed6 t16 t17 t18)).trans (congrArg (fun k => zz48_l6 N k N p1 a2 was5 changed6 t16 t17 t18) h)
theorem zz48_step3 (N : Nat) (m : Nat) (kX : St → Option (Bool × (Y4 × Unit))) (kO : Nat → St → Option (Bool × (Y4 × Unit))) (p1 : Y4) (a2 : Y7) (was5 : Bool) (changed6 : Bool) : zz48_R3 N (m + 1) (zz48_E3 kX kO) p1 a2 was5 changed6 = zz48_b3 (zz48_R6 N N (zz48_K6 N m kX kO)) (zz48_X3 kX) p1 a2 was5 changed6 := by kernel_rfl
theorem zz48_iter3 (N : Nat) (kX : St → Option (Bool × (Y4 × Unit))) (kO : Nat → St → Option (Bool × (Y4 × Unit))) : ∀ (n : Nat) (p1 : Y4) (a2 : Y7) (was5 : Bool) (changed6 : Bool), zz48_R3 N n (zz48_E3 kX kO) p1 a2 was5 changed6 = zz48_l3 N (zz48_X3 kX) n p1 a2 was5 changed6
  | 0, _, _, _, _ => rfl
  | m + 1, p1, a2, was5, changed6 => by
    have hrec : zz48_R3 N m (zz48_E3 kX kO) = (zz48_l3 N (zz48_X3 kX) m) := (funext fun p1 => (funext fun a2 => (funext fun was5 => (funext fun changed6 => zz48_iter3 N kX kO m p1 a2 was5 changed6))))
    refine (zz48_step3 N m kX kO p1 a2 was5 changed6).trans ?_
    rw [(funext fun p1 => (funext fun a2 => (funext fun was5 => (funext fun changed6 => (funext fun t16 => (funext fun t17 => (funext fun t18 => zz48_in6 N m kX kO (zz48_l3 N (zz48_X3 kX) m) hrec p1 a2 was5 changed6 t16 t17 t18)))))))]
    rfl
noncomputable abbrev zz48_K3 (N : Nat) : Ex → St → Option (Bool × (Y4 × Unit)) := (blockK 0 (seqK ((A_zz48).shape 43) (run (A_zz48) N (codeAt Try.f143 [1, 1, 1])) zz48_z))
noncomputable abbrev zz48_k3 (N : Nat) : St → Option (Bool × (Y4 × Unit)) := fun st' => run (A_zz48) N (codeAt Try.f143 [1, 1, 1]) st' zz48_z
theorem zz48_after3 (N : Nat) (p1 : Y4) (was5 : Bool) : zz48_X3 (zz48_k3 N) p1 was5 = zz48_a3 p1 was5 := by kernel_rfl
theorem zz48_in3 (N : Nat) (p1 : Y4) (a2 : Y7) (was5 : Bool) (changed6 : Bool) : zz48_R3 N N (zz48_K3 N) p1 a2 was5 changed6 = zz48_F3 N p1 a2 was5 changed6 :=
  have h : zz48_X3 (zz48_k3 N) = (zz48_a3) := (funext fun p1 => (funext fun was5 => zz48_after3 N p1 was5))
  ((iter_ex (fun st => by kernel_rfl) (fun st => by kernel_rfl)).trans (zz48_iter3 N (zz48_k3 N) (fun j st => (zz48_K3 N) (.exit j) st) N p1 a2 was5 changed6)).trans (congrArg (fun k => zz48_l3 N k N p1 a2 was5 changed6) h)
theorem run0_zz48 (N : Nat) (x : (S_zz48).a.den) : runF (A_zz48) N Try.f143 S_zz48 x = (zz48_s (zz48_R3 N N (zz48_K3 N)) x.1 x.2.1) := by kernel_rfl
theorem run_zz48 (N : Nat) (x : (S_zz48).a.den) : runF (A_zz48) N Try.f143 S_zz48 x = zz48 N x.1 x.2.1 := by
  refine (run0_zz48 N x).trans ?_
  rw [(funext fun p1 => (funext fun a2 => (funext fun was5 => (funext fun changed6 => zz48_in3 N p1 a2 was5 changed6))))]
  rfl
theorem fn_zz48 : FnOk Try.prog 143 := ⟨_, Try.func143, by kernel_rfl, by kernel_rfl⟩
theorem good_zz48 : Gx.Good Try.prog 143 S_zz48 := good_of_run Try.func143 (of_decide_eq_true (by kernel_rfl)) fun x r h => ⟨A_zz48, big, mkCfg_ok tabOk, mkCfg_sigs (show SigsOk Try.prog [(192, S_zz47)] from ⟨⟨fn_zz47, good_zz47⟩, trivial⟩), (run_zz48 big x).trans h⟩

/-! zz49 -/
def zz49_s (a_0 : Y7) (p_1 : Y4) : Option (Bool × Unit) :=
  (zz45 big a_0.1 p_1).bind fun rq1 =>
  cond rq1.1
  ((zz46 p_1).bind fun rq2 =>
  (zz48 big a_0 rq2.1).bind fun rq3 =>
  some (!rq3.1, (())))
  (some (false, (())))
def zz49 (a_0 : Y7) (p_1 : Y4) : Option (Bool × Unit) := zz49_s a_0 p_1
def S_zz49 : Sig := { a := (.pair (.pair I (.pair (.sl (.pair I (.pair (.sl I) .unit))) .unit)) (.pair (.sl I) .unit)), md := [0, 0], mf := [], m := .unit, r := .bool, rf := .i, f := fun x => zz49 x.1 x.2.1 }
def A_zz49 : Cfg := mkCfg tab [(142, S_zz45), (144, S_zz46), (143, S_zz48)] []
theorem run_zz49 (N : Nat) (x : (S_zz49).a.den) : runF (A_zz49) N Try.f72 S_zz49 x = zz49 x.1 x.2.1 := by kernel_rfl
theorem fn_zz49 : FnOk Try.prog 72 := ⟨_, Try.func72, by kernel_rfl, by kernel_rfl⟩
theorem good_zz49 : Gx.Good Try.prog 72 S_zz49 := good_of_run Try.func72 (of_decide_eq_true (by kernel_rfl)) fun x r h => ⟨A_zz49, big, mkCfg_ok tabOk, mkCfg_sigs (show SigsOk Try.prog [(142, S_zz45), (144, S_zz46), (143, S_zz48)] from ⟨⟨fn_zz45, good_zz45⟩, ⟨fn_zz46, good_zz46⟩, ⟨fn_zz48, good_zz48⟩, trivial⟩), (run_zz49 big x).trans h⟩

/-! zz50 -/
def zz50_s (o_0 : Y5) (x_1 : Int) (y_2 : Int) : Option (Bool × Unit) :=
  cond (decide (x_1 ≠ y_2))
  ((atI o_0 x_1).bind fun xq1 =>
  (atI xq1 y_2).bind fun xq2 =>
  some (xq2, (())))
  (some (false, (())))
def zz50 (o_0 : Y5) (x_1 : Int) (y_2 : Int) : Option (Bool × Unit) := zz50_s o_0 x_1 y_2
def S_zz50 : Sig := { a := (.pair (.sl (.sl .bool)) (.pair I (.pair I .unit))), md := [0, 0, 0], mf := [], m := .unit, r := .bool, rf := .i, f := fun x => zz50 x.1 x.2.1 x.2.2.1 }
def A_zz50 : Cfg := mkCfg tab [] []
theorem run_zz50 (N : Nat) (x : (S_zz50).a.den) : runF (A_zz50) N Try.f193 S_zz50 x = zz50 x.1 x.2.1 x.2.2.1 := by kernel_rfl
theorem fn_zz50 : FnOk Try.prog 193 := ⟨_, Try.func193, by kernel_rfl, by kernel_rfl⟩
theorem good_zz50 : Gx.Good Try.prog 193 S_zz50 := good_of_run Try.func193 (of_decide_eq_true (by kernel_rfl)) fun x r h => ⟨A_zz50, big, mkCfg_ok tabOk, mkCfg_sigs (show SigsOk Try.prog [] from trivial), (run_zz50 big x).trans h⟩

/-! zz51 -/
def zz51_b4 (rec : Y5 → Int → Int → Int → Int → Option (Bool × Unit)) (k : Option (Bool × Unit)) (o0 : Y5) (x1 : Int) (y2 : Int) (t14 : Int) (t15 : Int) : Option (Bool × Unit) :=
  cond (decide (t15 < t14))
  ((zz50 o0 x1 t15).bind fun rq2 =>
  cond rq2.1
  ((zz50 o0 t15 y2).bind fun rq3 =>
  cond rq3.1
  (some (false, (())))
  (rec o0 x1 y2 t14 (IntKind.i64.wrap (t15 + (1 : Int)))))
  (rec o0 x1 y2 t14 (IntKind.i64.wrap (t15 + (1 : Int)))))
  (k)
def zz51_a4 : Option (Bool × Unit) :=
  some (true, (()))
def zz51_s (L4 : Y5 → Int → Int → Int → Int → Option (Bool × Unit)) (o_0 : Y5) (x_1 : Int) (y_2 : Int) : Option (Bool × Unit) :=
  (zz50 o_0 x_1 y_2).bind fun rq1 =>
  cond (!rq1.1)
  (some (false, (())))
  (L4 o_0 x_1 y_2 (o_0.length : Int) (0 : Int))
def zz51_l4 (N : Nat) (k : Option (Bool × Unit)) : Nat → Y5 → Int → Int → Int → Int → Option (Bool × Unit)
  | 0, _, _, _, _, _ => none
  | m + 1, o0, x1, y2, t14, t15 => zz51_b4 (zz51_l4 N k m) k o0 x1 y2 t14 t15
def zz51_F4 (N : Nat) (o0 : Y5) (x1 : Int) (y2 : Int) (t14 : Int) (t15 : Int) : Option (Bool × Unit) := zz51_l4 N (zz51_a4) N o0 x1 y2 t14 t15
def zz51 (N : Nat) (o_0 : Y5) (x_1 : Int) (y_2 : Int) : Option (Bool × Unit) := zz51_s (zz51_F4 N) o_0 x_1 y_2
def S_zz51 : Sig := { a := (.pair (.sl (.sl .bool)) (.pair I (.pair I .unit))), md := [0, 0, 0], mf := [], m := .unit, r := .bool, rf := .i, f := fun x => zz51 big x.1 x.2.1 x.2.2.1 }
def A_zz51 : Cfg := mkCfg tab [(193, S_zz50)] [(8, [.as (.sl (.sl .bool)) .i, .as I .i, .as I .i, .drop, .drop, .drop, .drop, .drop, .drop, .drop, .drop, .drop, .drop, .drop, .as I .i, .as I .i]), (19, [])]
noncomputable def zz51_R4 (N n : Nat) (K : Ex → St → Option (Bool × Unit)) (o0 : Y5) (x1 : Int) (y2 : Int) (t14 : Int) (t15 : Int) : Option (Bool × Unit) := iter ((A_zz51).shape 8) (run (A_zz51) N (codeAt Try.f145 [1, 1, 0, 1, 0, 0])) n ([.val (.sl (.sl .bool)) .i o0, .val I .i x1, .val I .i y2, .u, .u, .u, .u, .u, .u, .u, .u, .u, .u, .u, .val I .i t14, .val I .i t15] ++ List.replicate 13 .u) K
noncomputable abbrev zz51_z : Ex → St → Option (Bool × Unit) := finish (A_zz51) S_zz51 Try.f145.results.toList
noncomputable abbrev zz51_X4 (kX : St → Option (Bool × Unit)) : Option (Bool × Unit) := kX ([] ++ List.replicate 29 .u)
noncomputable abbrev zz51_E4 (kX : St → Option (Bool × Unit)) (kO : Nat → St → Option (Bool × Unit)) : Ex → St → Option (Bool × Unit) := exK zz51_z 0 ((A_zz51).shape 19) kX kO
theorem zz51_step4 (N : Nat) (m : Nat) (kX : St → Option (Bool × Unit)) (kO : Nat → St → Option (Bool × Unit)) (o0 : Y5) (x1 : Int) (y2 : Int) (t14 : Int) (t15 : Int) : zz51_R4 N (m + 1) (zz51_E4 kX kO) o0 x1 y2 t14 t15 = zz51_b4 (zz51_R4 N m (zz51_E4 kX kO)) (zz51_X4 kX) o0 x1 y2 t14 t15 := by kernel_rfl
theorem zz51_iter4 (N : Nat) (kX : St → Option (Bool × Unit)) (kO : Nat → St → Option (Bool × Unit)) : ∀ (n : Nat) (o0 : Y5) (x1 : Int) (y2 : Int) (t14 : Int) (t15 : Int), zz51_R4 N n (zz51_E4 kX kO) o0 x1 y2 t14 t15 = zz51_l4 N (zz51_X4 kX) n o0 x1 y2 t14 t15
  | 0, _, _, _, _, _ => rfl
  | m + 1, o0, x1, y2, t14, t15 => by
    have hrec : zz51_R4 N m (zz51_E4 kX kO) = (zz51_l4 N (zz51_X4 kX) m) := (funext fun o0 => (funext fun x1 => (funext fun y2 => (funext fun t14 => (funext fun t15 => zz51_iter4 N kX kO m o0 x1 y2 t14 t15)))))
    refine (zz51_step4 N m kX kO o0 x1 y2 t14 t15).trans ?_
    rw [hrec]
    rfl
noncomputable abbrev zz51_K4 (N : Nat) : Ex → St → Option (Bool × Unit) := (blockK 0 (seqK ((A_zz51).shape 19) (run (A_zz51) N (codeAt Try.f145 [1, 1, 1])) zz51_z))
noncomputable abbrev zz51_k4 (N : Nat) : St → Option (Bool × Unit) := fun st' => run (A_zz51) N (codeAt Try.f145 [1, 1, 1]) st' zz51_z
theorem zz51_after4 (N : Nat) : zz51_X4 (zz51_k4 N) = zz51_a4 := by kernel_rfl
theorem zz51_in4 (N : Nat) (o0 : Y5) (x1 : Int) (y2 : Int) (t14 : Int) (t15 : Int) : zz51_R4 N N (zz51_K4 N) o0 x1 y2 t14 t15 = zz51_F4 N o0 x1 y2 t14 t15 :=
  have h : zz51_X4 (zz51_k4 N) = (zz51_a4) := zz51_after4 N
  ((iter_ex (fun st => by kernel_rfl) (fun st => by kernel_rfl)).trans (zz51_iter4 N (zz51_k4 N) (fun j st => (zz51_K4 N) (.exit j) st) N o0 x1 y2 t14 t15)).trans (congrArg (fun k => zz51_l4 N k N o0 x1 y2 t14 t15) h)
theorem run0_zz51 (N : Nat) (x : (S_zz51).a.den) : runF (A_zz51) N Try.f145 S_zz51 x = (zz51_s (zz51_R4 N N (zz51_K4 N)) x.1 x.2.1 x.2.2.1) := by kernel_rfl
theorem run_zz51 (N : Nat) (x : (S_zz51).a.den) : runF (A_zz51) N Try.f145 S_zz51 x = zz51 N x.1 x.2.1 x.2.2.1 := by
  refine (run0_zz51 N x).trans ?_
  rw [(funext fun o0 => (funext fun x1 => (funext fun y2 => (funext fun t14 => (funext fun t15 => zz51_in4 N o0 x1 y2 t14 t15)))))]
  rfl
theorem fn_zz51 : FnOk Try.prog 145 := ⟨_, Try.func145, by kernel_rfl, by kernel_rfl⟩
theorem good_zz51 : Gx.Good Try.prog 145 S_zz51 := good_of_run Try.func145 (of_decide_eq_true (by kernel_rfl)) fun x r h => ⟨A_zz51, big, mkCfg_ok tabOk, mkCfg_sigs (show SigsOk Try.prog [(193, S_zz50)] from ⟨⟨fn_zz50, good_zz50⟩, trivial⟩), (run_zz51 big x).trans h⟩

/-! zz52 -/
def zz52_b6 (rec : Y5 → (List (Int × (Int × Unit))) → Int → Int → Int → Int → Int → Option ((List (Int × (Int × Unit))) × Unit)) (k : Y5 → (List (Int × (Int × Unit))) → Int → Int → Option ((List (Int × (Int × Unit))) × Unit)) (o0 : Y5) (list3 : (List (Int × (Int × Unit)))) (x4 : Int) (t8 : Int) (t9 : Int) (t13 : Int) (t14 : Int) : Option ((List (Int × (Int × Unit))) × Unit) :=
  cond (decide (t14 < t13))
  ((zz51 big o0 x4 t14).bind fun rq1 =>
  cond rq1.1
  ((appI list3 [(x4, (t14, ()))]).bind fun xq2 =>
  rec o0 xq2 x4 t8 t9 t13 (IntKind.i64.wrap (t14 + (1 : Int))))
  (rec o0 list3 x4 t8 t9 t13 (IntKind.i64.wrap (t14 + (1 : Int)))))
  (k o0 list3 t8 t9)
def zz52_a6 (rec : Y5 → (List (Int × (Int × Unit))) → Int → Int → Option ((List (Int × (Int × Unit))) × Unit)) (o0 : Y5) (list3 : (List (Int × (Int × Unit)))) (t8 : Int) (t9 : Int) : Option ((List (Int × (Int × Unit))) × Unit) :=
  rec o0 list3 t8 (IntKind.i64.wrap (t9 + (1 : Int)))
def zz52_b3 (L6 : Y5 → (List (Int × (Int × Unit))) → Int → Int → Int → Int → Int → Option ((List (Int × (Int × Unit))) × Unit)) (k : (List (Int × (Int × Unit))) → Option ((List (Int × (Int × Unit))) × Unit)) (o0 : Y5) (list3 : (List (Int × (Int × Unit)))) (t8 : Int) (t9 : Int) : Option ((List (Int × (Int × Unit))) × Unit) :=
  cond (decide (t9 < t8))
  (L6 o0 list3 t9 t8 t9 (o0.length : Int) (0 : Int))
  (k list3)
def zz52_a3 (list3 : (List (Int × (Int × Unit)))) : Option ((List (Int × (Int × Unit))) × Unit) :=
  some (list3, (()))
def zz52_s (L3 : Y5 → (List (Int × (Int × Unit))) → Int → Int → Option ((List (Int × (Int × Unit))) × Unit)) (o_0 : Y5) : Option ((List (Int × (Int × Unit))) × Unit) :=
  L3 o_0 [] (o_0.length : Int) (0 : Int)
def zz52_l6 (N : Nat) (k : Y5 → (List (Int × (Int × Unit))) → Int → Int → Option ((List (Int × (Int × Unit))) × Unit)) : Nat → Y5 → (List (Int × (Int × Unit))) → Int → Int → Int → Int → Int → Option ((List (Int × (Int × Unit))) × Unit)
  | 0, _, _, _, _, _, _, _ => none
  | m + 1, o0, list3, x4, t8, t9, t13, t14 => zz52_b6 (zz52_l6 N k m) k o0 list3 x4 t8 t9 t13 t14
def zz52_F6 (N : Nat) (rec : Y5 → (List (Int × (Int × Unit))) → Int → Int → Option ((List (Int × (Int × Unit))) × Unit)) (k : (List (Int × (Int × Unit))) → Option ((List (Int × (Int × Unit))) × Unit)) (o0 : Y5) (list3 : (List (Int × (Int × Unit)))) (x4 : Int) (t8 : Int) (t9 : Int) (t13 : Int) (t14 : Int) : Option ((List (Int × (Int × Unit))) × Unit) := zz52_l6 N (zz52_a6 rec) N o0 list3 x4 t8 t9 t13 t14
def zz52_l3 (N : Nat) (k : (List (Int × (Int × Unit))) → Option ((List (Int × (Int × Unit))) × Unit)) : Nat → Y5 → (List (Int × (Int × Unit))) → Int → Int → Option ((List (Int × (Int × Unit))) × Unit)
  | 0, _, _, _, _ => none
  | m + 1, o0, list3, t8, t9 => zz52_b3 (zz52_F6 N (zz52_l3 N k m) k) k o0 list3 t8 t9
def zz52_F3 (N : Nat) (o0 : Y5) (list3 : (List (Int × (Int × Unit)))) (t8 : Int) (t9 : Int) : Option ((List (Int × (Int × Unit))) × Unit) := zz52_l3 N (zz52_a3) N o0 list3 t8 t9
def zz52 (N : Nat) (o_0 : Y5) : Option ((List (Int × (Int × Unit))) × Unit) := zz52_s (zz52_F3 N) o_0
def S_zz52 : Sig := { a := (.pair (.sl (.sl .bool)) .unit), md := [0], mf := [], m := .unit, r := (.sl (.pair I (.pair I .unit))), rf := (.o .i), f := fun x => zz52 big x.1 }
def A_zz52 : Cfg := mkCfg tab [(145, S_zz51)] [(6, [.as (.sl (.sl .bool)) .i, .drop, .drop, .as (.sl (.pair I (.pair I .unit))) (.o .i), .drop, .drop, .drop, .drop, .as I .i, .as I .i]), (12, [.as (.sl (.sl .bool)) .i, .drop, .drop, .as (.sl (.pair I (.pair I .unit))) (.o .i), .as I .i, .drop, .drop, .drop, .as I .i, .as I .i, .drop, .drop, .drop, .as I .i, .as I .i]), (25, [.drop, .drop, .drop, .as (.sl (.pair I (.pair I .unit))) (.o .i)]), (23, [.as (.sl (.sl .bool)) .i, .drop, .drop, .as (.sl (.pair I (.pair I .unit))) (.o .i), .drop, .drop, .drop, .drop, .as I .i, .as I .i])]
noncomputable def zz52_R3 (N n : Nat) (K : Ex → St → Option ((List (Int × (Int × Unit))) × Unit)) (o0 : Y5) (list3 : (List (Int × (Int × Unit)))) (t8 : Int) (t9 : Int) : Option ((List (Int × (Int × Unit))) × Unit) := iter ((A_zz52).shape 6) (run (A_zz52) N (codeAt Try.f74 [1, 1, 0, 1, 0, 0])) n ([.val (.sl (.sl .bool)) .i o0, .u, .u, .val (.sl (.pair I (.pair I .unit))) (.o .i) list3, .u, .u, .u, .u, .val I .i t8, .val I .i t9] ++ List.replicate 20 .u) K
noncomputable def zz52_R6 (N n : Nat) (K : Ex → St → Option ((List (Int × (Int × Unit))) × Unit)) (o0 : Y5) (list3 : (List (Int × (Int × Unit)))) (x4 : Int) (t8 : Int) (t9 : Int) (t13 : Int) (t14 : Int) : Option ((List (Int × (Int × Unit))) × Unit) := iter ((A_zz52).shape 12) (run (A_zz52) N (codeAt Try.f74 [1, 1, 0, 1, 0, 0, 1, 1, 0, 0, 1, 1, 0, 0])) n ([.val (.sl (.sl .bool)) .i o0, .u, .u, .val (.sl (.pair I (.pair I .unit))) (.o .i) list3, .val I .i x4, .u, .u, .u, .val I .i t8, .val I .i t9, .u, .u, .u, .val I .i t13, .val I .i t14] ++ List.replicate 15 .u) K
noncomputable abbrev zz52_z : Ex → St → Option ((List (Int × (Int × Unit))) × Unit) := finish (A_zz52) S_zz52 Try.f74.results.toList
noncomputable abbrev zz52_X3 (kX : St → Option ((List (Int × (Int × Unit))) × Unit)) : (List (Int × (Int × Unit))) → Option ((List (Int × (Int × Unit))) × Unit) := fun (list3 : (List (Int × (Int × Unit)))) => kX ([.u, .u, .u, .val (.sl (.pair I (.pair I .unit))) (.o .i) list3] ++ List.replicate 26 .u)
noncomputable abbrev zz52_E3 (kX : St → Option ((List (Int × (Int × Unit))) × Unit)) (kO : Nat → St → Option ((List (Int × (Int × Unit))) × Unit)) : Ex → St → Option ((List (Int × (Int × Unit))) × Unit) := exK zz52_z 0 ((A_zz52).shape 25) kX kO
noncomputable abbrev zz52_X6 (kX : St → Option ((List (Int × (Int × Unit))) × Unit)) : Y5 → (List (Int × (Int × Unit))) → Int → Int → Option ((List (Int × (Int × Unit))) × Unit) := fun (o0 : Y5) (list3 : (List (Int × (Int × Unit)))) (t8 : Int) (t9 : Int) => kX ([.val (.sl (.sl .bool)) .i o0, .u, .u, .val (.sl (.pair I (.pair I .unit))) (.o .i) list3, .u, .u, .u, .u, .val I .i t8, .val I .i t9] ++ List.replicate 20 .u)
noncomputable abbrev zz52_E6 (kX : St → Option ((List (Int × (Int × Unit))) × Unit)) (kO : Nat → St → Option ((List (Int × (Int × Unit))) × Unit)) : Ex → St → Option ((List (Int × (Int × Unit))) × Unit) := exK zz52_z 2 ((A_zz52).shape 23) kX kO
theorem zz52_step6 (N : Nat) (m : Nat) (kX : St → Option ((List (Int × (Int × Unit))) × Unit)) (kO : Nat → St → Option ((List (Int × (Int × Unit))) × Unit)) (o0 : Y5) (list3 : (List (Int × (Int × Unit)))) (x4 : Int) (t8 : Int) (t9 : Int) (t13 : Int) (t14 : Int) : zz52_R6 N (m + 1) (zz52_E6 kX kO) o0 list3 x4 t8 t9 t13 t14 = zz52_b6 (zz52_R6 N m (zz52_E6 kX kO)) (zz52_X6 kX) o0 list3 x4 t8 t9 t13 t14 := by kernel_rfl
theorem zz52_iter6 (N : Nat) (kX : St → Option ((List (Int × (Int × Unit))) × Unit)) (kO : Nat → St → Option ((List (Int × (Int × Unit))) × Unit)) : ∀ (n : Nat) (o0 : Y5) (list3 : (List (Int × (Int × Unit)))) (x4 : Int) (t8 : Int) (t9 : Int) (t13 : Int) (t14 : Int), zz52_R6 N n (zz52_E6 kX kO) o0 list3 x4 t8 t9 t13 t14 = zz52_l6 N (zz52_X6 kX) n o0 list3 x4 t8 t9 t13 t14
  | 0, _, _, _, _, _, _, _ => rfl
  | m + 1, o0, list3, x4, t8, t9, t13, t14 => by
    have hrec : zz52_R6 N m (zz52_E6 kX kO) = (zz52_l6 N (zz52_X6 kX) m) := (funext fun o0 => (funext fun list3 => (funext fun x4 => (funext fun t8 => (funext fun t9 => (funext fun t13 => (funext fun t14 => zz52_iter6 N kX kO m o0 list3 x4 t8 t9 t13 t14)))))))
    refine (zz52_step6 N m kX kO o0 list3 x4 t8 t9 t13 t14).trans ?_
    rw [hrec]
    rfl
noncomputable abbrev zz52_K6 (N : Nat) (m : Nat) (kX : St → Option ((List (Int × (Int × Unit))) × Unit)) (kO : Nat → St → Option ((List (Int × (Int × Unit))) × Unit)) : Ex → St → Option ((List (Int × (Int × Unit))) × Unit) := (blockK 2 (blockK 1 (seqK ((A_zz52).shape 23) (run (A_zz52) N (codeAt Try.f74 [1, 1, 0, 1, 0, 0, 1, 1, 1])) (iterK ((A_zz52).shape 6) (run (A_zz52) N (codeAt Try.f74 [1, 1, 0, 1, 0, 0])) m (zz52_E3 kX kO)))))
noncomputable abbrev zz52_k6 (N : Nat) (m : Nat) (kX : St → Option ((List (Int × (Int × Unit))) × Unit)) (kO : Nat → St → Option ((List (Int × (Int × Unit))) × Unit)) : St → Option ((List (Int × (Int × Unit))) × Unit) := fun st' => run (A_zz52) N (codeAt Try.f74 [1, 1, 0, 1, 0, 0, 1, 1, 1]) st' (iterK ((A_zz52).shape 6) (run (A_zz52) N (codeAt Try.f74 [1, 1, 0, 1, 0, 0])) m (zz52_E3 kX kO))
theorem zz52_after6 (N : Nat) (m : Nat) (kX : St → Option ((List (Int × (Int × Unit))) × Unit)) (kO : Nat → St → Option ((List (Int × (Int × Unit))) × Unit)) (o0 : Y5) (list3 : (List (Int × (Int × Unit)))) (t8 : Int) (t9 : Int) : zz52_X6 (zz52_k6 N m kX kO) o0 list3 t8 t9 = zz52_a6 (zz52_R3 N m (zz52_E3 kX kO)) o0 list3 t8 t9 := by kernel_rfl
theorem zz52_in6 (N : Nat) (m : Nat) (kX : St → Option ((List (Int × (Int × Unit))) × Unit)) (kO : Nat → St → Option ((List (Int × (Int × Unit))) × Unit)) (recF : Y5 → (List (Int × (Int × Unit))) → Int → Int → Option ((List (Int × (Int × Unit))) × Unit)) (hrec : zz52_R3 N m (zz52_E3 kX kO) = recF) (o0 : Y5) (list3 : (List (Int × (Int × Unit)))) (x4 : Int) (t8 : Int) (t9 : Int) (t13 : Int) (t14 : Int) : zz52_R6 N N (zz52_K6 N m kX kO) o0 list3 x4 t8 t9 t13 t14 = zz52_F6 N recF (zz52_X3 kX) o0 list3 x4 t8 t9 t13 t14 :=
  have h : zz52_X6 (zz52_k6 N m kX kO) = (zz52_a6 recF) := (funext fun o0 => (funext fun list3 => (funext fun t8 => (funext fun t9 => (zz52_after6 N m kX kO o0 list3 t8 t9).trans (by rw [hrec])))))
  ((iter_ex (fun st => by kernel_rfl) (fun st => by kernel_rfl)).trans (zz52_iter6 N (zz52_k6 N m kX kO) (fun j st => (zz52_K6 N m kX kO) (.exit j) st) N o0 list3 x4 t8 t9 t13 t14)).trans (congrArg (fun k => zz52_l6 N k N o0 list3 x4 t8 t9 t13 t14) h)
theorem zz52_step3 (N : Nat) (m : Nat) (kX : St → Option ((List (Int × (Int × Unit))) × Unit)) (kO : Nat → St → Option ((List (Int × (Int × Unit))) × Unit)) (o0 : Y5) (list3 : (List (Int × (Int × Unit)))) (t8 : Int) (t9 : Int) : zz52_R3 N (m + 1) (zz52_E3 kX kO) o0 list3 t8 t9 = zz52_b3 (zz52_R6 N N (zz52_K6 N m kX kO)) (zz52_X3 kX) o0 list3 t8 t9 := by kernel_rfl
theorem zz52_iter3 (N : Nat) (kX : St → Option ((List (Int × (Int × Unit))) × Unit)) (kO : Nat → St → Option ((List (Int × (Int × Unit))) × Unit)) : ∀ (n : Nat) (o0 : Y5) (list3 : (List (Int × (Int × Unit)))) (t8 : Int) (t9 : Int), zz52_R3 N n (zz52_E3 kX kO) o0 list3 t8 t9 = zz52_l3 N (zz52_X3 kX) n o0 list3 t8 t9
  | 0, _, _, _, _ => rfl
  | m + 1, o0, list3, t8, t9 => by
    have hrec : zz52_R3 N m (zz52_E3 kX kO) = (zz52_l3 N (zz52_X3 kX) m) := (funext fun o0 => (funext fun list3 => (funext fun t8 => (funext fun t9 => zz52_iter3 N kX kO m o0 list3 t8 t9))))
    refine (zz52_step3 N m kX kO o0 list3 t8 t9).trans ?_
    rw [(funext fun o0 => (funext fun list3 => (funext fun x4 => (funext fun t8 => (funext fun t9 => (funext fun t13 => (funext fun t14 => zz52_in6 N m kX kO (zz52_l3 N (zz52_X3 kX) m) hrec o0 list3 x4 t8 t9 t13 t14)))))))]
    rfl
noncomputable abbrev zz52_K3 (N : Nat) : Ex → St → Option ((List (Int × (Int × Unit))) × Unit) := (blockK 0 (seqK ((A_zz52).shape 25) (run (A_zz52) N (codeAt Try.f74 [1, 1, 1])) zz52_z))
noncomputable abbrev zz52_k3 (N : Nat) : St → Option ((List (Int × (Int × Unit))) × Unit) := fun st' => run (A_zz52) N (codeAt Try.f74 [1, 1, 1]) st' zz52_z
theorem zz52_after3 (N : Nat) (list3 : (List (Int × (Int × Unit)))) : zz52_X3 (zz52_k3 N) list3 = zz52_a3 list3 := by kernel_rfl
theorem zz52_in3 (N : Nat) (o0 : Y5) (list3 : (List (Int × (Int × Unit)))) (t8 : Int) (t9 : Int) : zz52_R3 N N (zz52_K3 N) o0 list3 t8 t9 = zz52_F3 N o0 list3 t8 t9 :=
  have h : zz52_X3 (zz52_k3 N) = (zz52_a3) := (funext fun list3 => zz52_after3 N list3)
  ((iter_ex (fun st => by kernel_rfl) (fun st => by kernel_rfl)).trans (zz52_iter3 N (zz52_k3 N) (fun j st => (zz52_K3 N) (.exit j) st) N o0 list3 t8 t9)).trans (congrArg (fun k => zz52_l3 N k N o0 list3 t8 t9) h)
theorem run0_zz52 (N : Nat) (x : (S_zz52).a.den) : runF (A_zz52) N Try.f74 S_zz52 x = (zz52_s (zz52_R3 N N (zz52_K3 N)) x.1) := by kernel_rfl
theorem run_zz52 (N : Nat) (x : (S_zz52).a.den) : runF (A_zz52) N Try.f74 S_zz52 x = zz52 N x.1 := by
  refine (run0_zz52 N x).trans ?_
  rw [(funext fun o0 => (funext fun list3 => (funext fun t8 => (funext fun t9 => zz52_in3 N o0 list3 t8 t9))))]
  rfl
theorem fn_zz52 : FnOk Try.prog 74 := ⟨_, Try.func74, by kernel_rfl, by kernel_rfl⟩
theorem good_zz52 : Gx.Good Try.prog 74 S_zz52 := good_of_run Try.func74 (of_decide_eq_true (by kernel_rfl)) fun x r h => ⟨A_zz52, big, mkCfg_ok tabOk, mkCfg_sigs (show SigsOk Try.prog [(145, S_zz51)] from ⟨⟨fn_zz51, good_zz51⟩, trivial⟩), (run_zz52 big x).trans h⟩

/-! zz53 -/
def zz53_b6 (rec : Y4 → (List (Int × (Int × Unit))) → (List (Int × (Int × Unit))) → Int → Int → Option (((List (Int × (Int × Unit))) × (Bool × Unit)) × Unit)) (k : (List (Int × (Int × Unit))) → Option (((List (Int × (Int × Unit))) × (Bool × Unit)) × Unit)) (c1 : Y4) (list8 : (List (Int × (Int × Unit)))) (t31 : (List (Int × (Int × Unit)))) (t32 : Int) (t33 : Int) : Option (((List (Int × (Int × Unit))) × (Bool × Unit)) × Unit) :=
  cond (decide (t33 < t32))
  ((atI t31 t33).bind fun _ =>
  (t31[t33.toNat]?).bind fun xq6 =>
  (atI c1 xq6.1).bind fun xq7 =>
  (atI c1 xq6.2.1).bind fun xq8 =>
  cond (decide (xq7 = xq8))
  ((appI list8 [xq6]).bind fun xq9 =>
  rec c1 xq9 t31 t32 (IntKind.i64.wrap (t33 + (1 : Int))))
  (rec c1 list8 t31 t32 (IntKind.i64.wrap (t33 + (1 : Int)))))
  (k list8)
def zz53_a6 (list8 : (List (Int × (Int × Unit)))) : Option (((List (Int × (Int × Unit))) × (Bool × Unit)) × Unit) :=
  some ((list8, true, ()), (()))
def zz53_s (L6 : Y4 → (List (Int × (Int × Unit))) → (List (Int × (Int × Unit))) → Int → Int → Option (((List (Int × (Int × Unit))) × (Bool × Unit)) × Unit)) (p_0 : Y2) (c_1 : Y4) : Option (((List (Int × (Int × Unit))) × (Bool × Unit)) × Unit) :=
  (zz42 p_0).bind fun rq1 =>
  cond (!rq1.1.2.1)
  (some (([], false, ()), (())))
  ((zz44 rq1.1.1).bind fun rq2 =>
  (zz49 rq2.1 c_1).bind fun rq3 =>
  cond (!rq3.1)
  (some (([], false, ()), (())))
  ((rq1.1.1).bind fun xq4 =>
  (zz52 big xq4.1).bind fun rq5 =>
  L6 c_1 [] rq5.1 (rq5.1.length : Int) (0 : Int)))
def zz53_l6 (N : Nat) (k : (List (Int × (Int × Unit))) → Option (((List (Int × (Int × Unit))) × (Bool × Unit)) × Unit)) : Nat → Y4 → (List (Int × (Int × Unit))) → (List (Int × (Int × Unit))) → Int → Int → Option (((List (Int × (Int × Unit))) × (Bool × Unit)) × Unit)
  | 0, _, _, _, _, _ => none
  | m + 1, c1, list8, t31, t32, t33 => zz53_b6 (zz53_l6 N k m) k c1 list8 t31 t32 t33
def zz53_F6 (N : Nat) (c1 : Y4) (list8 : (List (Int × (Int × Unit)))) (t31 : (List (Int × (Int × Unit)))) (t32 : Int) (t33 : Int) : Option (((List (Int × (Int × Unit))) × (Bool × Unit)) × Unit) := zz53_l6 N (zz53_a6) N c1 list8 t31 t32 t33
def zz53 (N : Nat) (p_0 : Y2) (c_1 : Y4) : Option (((List (Int × (Int × Unit))) × (Bool × Unit)) × Unit) := zz53_s (zz53_F6 N) p_0 c_1
def S_zz53 : Sig := { a := (.pair (.pair (.sl (.sl I)) .unit) (.pair (.sl I) .unit)), md := [0, 0], mf := [], m := .unit, r := (.tup (.pair (.sl (.pair I (.pair I .unit))) (.pair .bool .unit))), rf := (.p (.o .i) .i), f := fun x => zz53 big x.1 x.2.1 }
def A_zz53 : Cfg := mkCfg tab [(71, S_zz42), (73, S_zz44), (72, S_zz49), (74, S_zz52)] [(12, [.drop, .as (.sl I) .i, .drop, .drop, .drop, .drop, .drop, .drop, .as (.sl (.pair I (.pair I .unit))) (.o .i), .drop, .drop, .drop, .drop, .drop, .drop, .drop, .drop, .drop, .drop, .drop, .drop, .drop, .drop, .drop, .drop, .drop, .drop, .drop, .drop, .drop, .drop, .as (.sl (.pair I (.pair I .unit))) (.o .i), .as I .i, .as I .i]), (23, [.drop, .drop, .drop, .drop, .drop, .drop, .drop, .drop, .as (.sl (.pair I (.pair I .unit))) (.o .i)])]
noncomputable def zz53_R6 (N n : Nat) (K : Ex → St → Option (((List (Int × (Int × Unit))) × (Bool × Unit)) × Unit)) (c1 : Y4) (list8 : (List (Int × (Int × Unit)))) (t31 : (List (Int × (Int × Unit)))) (t32 : Int) (t33 : Int) : Option (((List (Int × (Int × Unit))) × (Bool × Unit)) × Unit) := iter ((A_zz53).shape 12) (run (A_zz53) N (codeAt Try.f26 [1, 1, 1, 1, 0, 1, 0, 0])) n ([.u, .val (.sl I) .i c1, .u, .u, .u, .u, .u, .u, .val (.sl (.pair I (.pair I .unit))) (.o .i) list8, .u, .u, .u, .u, .u, .u, .u, .u, .u, .u, .u, .u, .u, .u, .u, .u, .u, .u, .u, .u, .u, .u, .val (.sl (.pair I (.pair I .unit))) (.o .i) t31, .val I .i t32, .val I .i t33] ++ List.replicate 20 .u) K
noncomputable abbrev zz53_z : Ex → St → Option (((List (Int × (Int × Unit))) × (Bool × Unit)) × Unit) := finish (A_zz53) S_zz53 Try.f26.results.toList
noncomputable abbrev zz53_X6 (kX : St → Option (((List (Int × (Int × Unit))) × (Bool × Unit)) × Unit)) : (List (Int × (Int × Unit))) → Option (((List (Int × (Int × Unit))) × (Bool × Unit)) × Unit) := fun (list8 : (List (Int × (Int × Unit)))) => kX ([.u, .u, .u, .u, .u, .u, .u, .u, .val (.sl (.pair I (.pair I .unit))) (.o .i) list8] ++ List.replicate 45 .u)
noncomputable abbrev zz53_E6 (kX : St → Option (((List (Int × (Int × Unit))) × (Bool × Unit)) × Unit)) (kO : Nat → St → Option (((List (Int × (Int × Unit))) × (Bool × Unit)) × Unit)) : Ex → St → Option (((List (Int × (Int × Unit))) × (Bool × Unit)) × Unit) := exK zz53_z 0 ((A_zz53).shape 23) kX kO
theorem zz53_step6 (N : Nat) (m : Nat) (kX : St → Option (((List (Int × (Int × Unit))) × (Bool × Unit)) × Unit)) (kO : Nat → St → Option (((List (Int × (Int × Unit))) × (Bool × Unit)) × Unit)) (c1 : Y4) (list8 : (List (Int × (Int × Unit)))) (t31 : (List (Int × (Int × Unit)))) (t32 : Int) (t33 : Int) : zz53_R6 N (m + 1) (zz53_E6 kX kO) c1 list8 t31 t32 t33 = zz53_b6 (zz53_R6 N m (zz53_E6 kX kO)) (zz53_X6 kX) c1 list8 t31 t32 t33 := by kernel_rfl
theorem zz53_iter6 (N : Nat) (kX : St → Option (((List (Int × (Int × Unit))) × (Bool × Unit)) × Unit)) (kO : Nat → St → Option (((List (Int × (Int × Unit))) × (Bool × Unit)) × Unit)) : ∀ (n : Nat) (c1 : Y4) (list8 : (List (Int × (Int × Unit)))) (t31 : (List (Int × (Int × Unit)))) (t32 : Int) (t33 : Int), zz53_R6 N n (zz53_E6 kX kO) c1 list8 t31 t32 t33 = zz53_l6 N (zz53_X6 kX) n c1 list8 t31 t32 t33
  | 0, _, _, _, _, _ => rfl
  | m + 1, c1, list8, t31, t32, t33 => by
    have hrec : zz53_R6 N m (zz53_E6 kX kO) = (zz53_l6 N (zz53_X6 kX) m) := (funext fun c1 => (funext fun list8 => (funext fun t31 => (funext fun t32 => (funext fun t33 => zz53_iter6 N kX kO m c1 list8 t31 t32 t33)))))
    refine (zz53_step6 N m kX kO c1 list8 t31 t32 t33).trans ?_
    rw [hrec]
    rfl
noncomputable abbrev zz53_K6 (N : Nat) : Ex → St → Option (((List (Int × (Int × Unit))) × (Bool × Unit)) × Unit) := (blockK 0 (seqK ((A_zz53).shape 23) (run (A_zz53) N (codeAt Try.f26 [1, 1, 1, 1, 1])) zz53_z))
noncomputable abbrev zz53_k6 (N : Nat) : St → Option (((List (Int × (Int × Unit))) × (Bool × Unit)) × Unit) := fun st' => run (A_zz53) N (codeAt Try.f26 [1, 1, 1, 1, 1]) st' zz53_z
theorem zz53_after6 (N : Nat) (list8 : (List (Int × (Int × Unit)))) : zz53_X6 (zz53_k6 N) list8 = zz53_a6 list8 := by kernel_rfl
theorem zz53_in6 (N : Nat) (c1 : Y4) (list8 : (List (Int × (Int × Unit)))) (t31 : (List (Int × (Int × Unit)))) (t32 : Int) (t33 : Int) : zz53_R6 N N (zz53_K6 N) c1 list8 t31 t32 t33 = zz53_F6 N c1 list8 t31 t32 t33 :=
  have h : zz53_X6 (zz53_k6 N) = (zz53_a6) := (funext fun list8 => zz53_after6 N list8)
  ((iter_ex (fun st => by kernel_rfl) (fun st => by kernel_rfl)).trans (zz53_iter6 N (zz53_k6 N) (fun j st => (zz53_K6 N) (.exit j) st) N c1 list8 t31 t32 t33)).trans (congrArg (fun k => zz53_l6 N k N c1 list8 t31 t32 t33) h)
theorem run0_zz53 (N : Nat) (x : (S_zz53).a.den) : runF (A_zz53) N Try.f26 S_zz53 x = (zz53_s (zz53_R6 N N (zz53_K6 N)) x.1 x.2.1) := by kernel_rfl
theorem run_zz53 (N : Nat) (x : (S_zz53).a.den) : runF (A_zz53) N Try.f26 S_zz53 x = zz53 N x.1 x.2.1 := by
  refine (run0_zz53 N x).trans ?_
  rw [(funext fun c1 => (funext fun list8 => (funext fun t31 => (funext fun t32 => (funext fun t33 => zz53_in6 N c1 list8 t31 t32 t33)))))]
  rfl
theorem fn_zz53 : FnOk Try.prog 26 := ⟨_, Try.func26, by kernel_rfl, by kernel_rfl⟩
theorem good_zz53 : Gx.Good Try.prog 26 S_zz53 := good_of_run Try.func26 (of_decide_eq_true (by kernel_rfl)) fun x r h => ⟨A_zz53, big, mkCfg_ok tabOk, mkCfg_sigs (show SigsOk Try.prog [(71, S_zz42), (73, S_zz44), (72, S_zz49), (74, S_zz52)] from ⟨⟨fn_zz42, good_zz42⟩, ⟨fn_zz44, good_zz44⟩, ⟨fn_zz49, good_zz49⟩, ⟨fn_zz52, good_zz52⟩, trivial⟩), (run_zz53 big x).trans h⟩

/-! zz54 -/
def zz54_b2 (rec : (Int × (Int × Unit)) → (Int × (Int × Unit)) → Int → Option (Bool × Unit)) (k : Option (Bool × Unit)) (a2 : (Int × (Int × Unit))) (b3 : (Int × (Int × Unit))) (i5 : Int) : Option (Bool × Unit) :=
  cond (decide (i5 < (2 : Int)))
  (cond (decide (i5 = (0 : Int)))
  (cond (decide (i5 = (0 : Int)))
  (cond (decide (a2.1 ≠ b3.1))
  (some (false, (())))
  (rec a2 b3 (IntKind.i64.wrap (i5 + (1 : Int)))))
  (cond (decide (i5 = (1 : Int)))
  (cond (decide (a2.1 ≠ b3.2.1))
  (some (false, (())))
  (rec a2 b3 (IntKind.i64.wrap (i5 + (1 : Int)))))
  (none)))
  (cond (decide (i5 = (1 : Int)))
  (cond (decide (i5 = (0 : Int)))
  (cond (decide (a2.2.1 ≠ b3.1))
  (some (false, (())))
  (rec a2 b3 (IntKind.i64.wrap (i5 + (1 : Int)))))
  (cond (decide (i5 = (1 : Int)))
  (cond (decide (a2.2.1 ≠ b3.2.1))
  (some (false, (())))
  (rec a2 b3 (IntKind.i64.wrap (i5 + (1 : Int)))))
  (none)))
  (none)))
  (k)
def zz54_a2 : Option (Bool × Unit) :=
  some (true, (()))
def zz54_s (L2 : (Int × (Int × Unit)) → (Int × (Int × Unit)) → Int → Option (Bool × Unit)) (a_0 : (Int × (Int × Unit))) (b_1 : (Int × (Int × Unit))) : Option (Bool × Unit) :=
  L2 a_0 b_1 (0 : Int)
def zz54_l2 (N : Nat) (k : Option (Bool × Unit)) : Nat → (Int × (Int × Unit)) → (Int × (Int × Unit)) → Int → Option (Bool × Unit)
  | 0, _, _, _ => none
  | m + 1, a2, b3, i5 => zz54_b2 (zz54_l2 N k m) k a2 b3 i5
def zz54_F2 (N : Nat) (a2 : (Int × (Int × Unit))) (b3 : (Int × (Int × Unit))) (i5 : Int) : Option (Bool × Unit) := zz54_l2 N (zz54_a2) N a2 b3 i5
def zz54 (N : Nat) (a_0 : (Int × (Int × Unit))) (b_1 : (Int × (Int × Unit))) : Option (Bool × Unit) := zz54_s (zz54_F2 N) a_0 b_1
def S_zz54 : Sig := { a := (.pair (.pair I (.pair I .unit)) (.pair (.pair I (.pair I .unit)) .unit)), md := [0, 0], mf := [], m := .unit, r := .bool, rf := .i, f := fun x => zz54 big x.1 x.2.1 }
def A_zz54 : Cfg := mkCfg tab [] [(4, [.drop, .drop, .as (.ptr (.pair I (.pair I .unit))) (.o .i), .as (.ptr (.pair I (.pair I .unit))) (.o .i), .drop, .as I .i]), (13, [])]
noncomputable def zz54_R2 (N n : Nat) (K : Ex → St → Option (Bool × Unit)) (a2 : (Int × (Int × Unit))) (b3 : (Int × (Int × Unit))) (i5 : Int) : Option (Bool × Unit) := iter ((A_zz54).shape 4) (run (A_zz54) N (codeAt Try.f75 [1, 0, 1, 0, 0])) n ([.u, .u, .val (.ptr (.pair I (.pair I .unit))) (.o .i) a2, .val (.ptr (.pair I (.pair I .unit))) (.o .i) b3, .u, .val I .i i5] ++ List.replicate 11 .u) K
noncomputable abbrev zz54_z : Ex → St → Option (Bool × Unit) := finish (A_zz54) S_zz54 Try.f75.results.toList
noncomputable abbrev zz54_X2 (kX : St → Option (Bool × Unit)) : Option (Bool × Unit) := kX ([] ++ List.replicate 17 .u)
noncomputable abbrev zz54_E2 (kX : St → Option (Bool × Unit)) (kO : Nat → St → Option (Bool × Unit)) : Ex → St → Option (Bool × Unit) := exK zz54_z 0 ((A_zz54).shape 13) kX kO
theorem zz54_step2 (N : Nat) (m : Nat) (kX : St → Option (Bool × Unit)) (kO : Nat → St → Option (Bool × Unit)) (a2 : (Int × (Int × Unit))) (b3 : (Int × (Int × Unit))) (i5 : Int) : zz54_R2 N (m + 1) (zz54_E2 kX kO) a2 b3 i5 = zz54_b2 (zz54_R2 N m (zz54_E2 kX kO)) (zz54_X2 kX) a2 b3 i5 := by kernel_rfl
theorem zz54_iter2 (N : Nat) (kX : St → Option (Bool × Unit)) (kO : Nat → St → Option (Bool × Unit)) : ∀ (n : Nat) (a2 : (Int × (Int × Unit))) (b3 : (Int × (Int × Unit))) (i5 : Int), zz54_R2 N n (zz54_E2 kX kO) a2 b3 i5 = zz54_l2 N (zz54_X2 kX) n a2 b3 i5
  | 0, _, _, _ => rfl
  | m + 1, a2, b3, i5 => by
    have hrec : zz54_R2 N m (zz54_E2 kX kO) = (zz54_l2 N (zz54_X2 kX) m) := (funext fun a2 => (funext fun b3 => (funext fun i5 => zz54_iter2 N kX kO m a2 b3 i5)))
    refine (zz54_step2 N m kX kO a2 b3 i5).trans ?_
    rw [hrec]
    rfl
noncomputable abbrev zz54_K2 (N : Nat) : Ex → St → Option (Bool × Unit) := (blockK 0 (seqK ((A_zz54).shape 13) (run (A_zz54) N (codeAt Try.f75 [1, 1])) zz54_z))
noncomputable abbrev zz54_k2 (N : Nat) : St → Option (Bool × Unit) := fun st' => run (A_zz54) N (codeAt Try.f75 [1, 1]) st' zz54_z
theorem zz54_after2 (N : Nat) : zz54_X2 (zz54_k2 N) = zz54_a2 := by kernel_rfl
theorem zz54_in2 (N : Nat) (a2 : (Int × (Int × Unit))) (b3 : (Int × (Int × Unit))) (i5 : Int) : zz54_R2 N N (zz54_K2 N) a2 b3 i5 = zz54_F2 N a2 b3 i5 :=
  have h : zz54_X2 (zz54_k2 N) = (zz54_a2) := zz54_after2 N
  ((iter_ex (fun st => by kernel_rfl) (fun st => by kernel_rfl)).trans (zz54_iter2 N (zz54_k2 N) (fun j st => (zz54_K2 N) (.exit j) st) N a2 b3 i5)).trans (congrArg (fun k => zz54_l2 N k N a2 b3 i5) h)
theorem run0_zz54 (N : Nat) (x : (S_zz54).a.den) : runF (A_zz54) N Try.f75 S_zz54 x = (zz54_s (zz54_R2 N N (zz54_K2 N)) x.1 x.2.1) := by kernel_rfl
theorem run_zz54 (N : Nat) (x : (S_zz54).a.den) : runF (A_zz54) N Try.f75 S_zz54 x = zz54 N x.1 x.2.1 := by
  refine (run0_zz54 N x).trans ?_
  rw [(funext fun a2 => (funext fun b3 => (funext fun i5 => zz54_in2 N a2 b3 i5)))]
  rfl
theorem fn_zz54 : FnOk Try.prog 75 := ⟨_, Try.func75, by kernel_rfl, by kernel_rfl⟩
theorem good_zz54 : Gx.Good Try.prog 75 S_zz54 := good_of_run Try.func75 (of_decide_eq_true (by kernel_rfl)) fun x r h => ⟨A_zz54, big, mkCfg_ok tabOk, mkCfg_sigs (show SigsOk Try.prog [] from trivial), (run_zz54 big x).trans h⟩

/-! zz55 -/
def zz55_b4 (rec : (List (Int × (Int × Unit))) → (List (Int × (Int × Unit))) → Int → Option (Bool × Unit)) (k : Option (Bool × Unit)) (a0 : (List (Int × (Int × Unit)))) (b1 : (List (Int × (Int × Unit)))) (i5 : Int) : Option (Bool × Unit) :=
  cond (decide (i5 < (a0.length : Int)))
  ((atI a0 i5).bind fun xq1 =>
  (atI b1 i5).bind fun xq2 =>
  (zz54 big xq1 xq2).bind fun rq3 =>
  cond (!rq3.1)
  (some (false, (())))
  (rec a0 b1 (IntKind.i64.wrap (i5 + (1 : Int)))))
  (k)
def zz55_a4 : Option (Bool × Unit) :=
  some (true, (()))
def zz55_s (L4 : (List (Int × (Int × Unit))) → (List (Int × (Int × Unit))) → Int → Option (Bool × Unit)) (a_0 : (List (Int × (Int × Unit)))) (b_1 : (List (Int × (Int × Unit)))) : Option (Bool × Unit) :=
  cond (decide ((a_0.length : Int) ≠ (b_1.length : Int)))
  (some (false, (())))
  (L4 a_0 b_1 (0 : Int))
def zz55_l4 (N : Nat) (k : Option (Bool × Unit)) : Nat → (List (Int × (Int × Unit))) → (List (Int × (Int × Unit))) → Int → Option (Bool × Unit)
  | 0, _, _, _ => none
  | m + 1, a0, b1, i5 => zz55_b4 (zz55_l4 N k m) k a0 b1 i5
def zz55_F4 (N : Nat) (a0 : (List (Int × (Int × Unit)))) (b1 : (List (Int × (Int × Unit)))) (i5 : Int) : Option (Bool × Unit) := zz55_l4 N (zz55_a4) N a0 b1 i5
def zz55 (N : Nat) (a_0 : (List (Int × (Int × Unit)))) (b_1 : (List (Int × (Int × Unit)))) : Option (Bool × Unit) := zz55_s (zz55_F4 N) a_0 b_1
def S_zz55 : Sig := { a := (.pair (.sl (.pair I (.pair I .unit))) (.pair (.sl (.pair I (.pair I .unit))) .unit)), md := [0, 0], mf := [], m := .unit, r := .bool, rf := .i, f := fun x => zz55 big x.1 x.2.1 }
def A_zz55 : Cfg := mkCfg tab [(75, S_zz54)] [(8, [.as (.sl (.pair I (.pair I .unit))) .i, .as (.sl (.pair I (.pair I .unit))) .i, .drop, .drop, .drop, .as I .i]), (17, [])]
noncomputable def zz55_R4 (N n : Nat) (K : Ex → St → Option (Bool × Unit)) (a0 : (List (Int × (Int × Unit)))) (b1 : (List (Int × (Int × Unit)))) (i5 : Int) : Option (Bool × Unit) := iter ((A_zz55).shape 8) (run (A_zz55) N (codeAt Try.f27 [1, 1, 0, 1, 0, 0])) n ([.val (.sl (.pair I (.pair I .unit))) .i a0, .val (.sl (.pair I (.pair I .unit))) .i b1, .u, .u, .u, .val I .i i5] ++ List.replicate 21 .u) K
noncomputable abbrev zz55_z : Ex → St → Option (Bool × Unit) := finish (A_zz55) S_zz55 Try.f27.results.toList
noncomputable abbrev zz55_X4 (kX : St → Option (Bool × Unit)) : Option (Bool × Unit) := kX ([] ++ List.replicate 27 .u)
noncomputable abbrev zz55_E4 (kX : St → Option (Bool × Unit)) (kO : Nat → St → Option (Bool × Unit)) : Ex → St → Option (Bool × Unit) := exK zz55_z 0 ((A_zz55).shape 17) kX kO
theorem zz55_step4 (N : Nat) (m : Nat) (kX : St → Option (Bool × Unit)) (kO : Nat → St → Option (Bool × Unit)) (a0 : (List (Int × (Int × Unit)))) (b1 : (List (Int × (Int × Unit)))) (i5 : Int) : zz55_R4 N (m + 1) (zz55_E4 kX kO) a0 b1 i5 = zz55_b4 (zz55_R4 N m (zz55_E4 kX kO)) (zz55_X4 kX) a0 b1 i5 := by kernel_rfl
theorem zz55_iter4 (N : Nat) (kX : St → Option (Bool × Unit)) (kO : Nat → St → Option (Bool × Unit)) : ∀ (n : Nat) (a0 : (List (Int × (Int × Unit)))) (b1 : (List (Int × (Int × Unit)))) (i5 : Int), zz55_R4 N n (zz55_E4 kX kO) a0 b1 i5 = zz55_l4 N (zz55_X4 kX) n a0 b1 i5
  | 0, _, _, _ => rfl
  | m + 1, a0, b1, i5 => by
    have hrec : zz55_R4 N m (zz55_E4 kX kO) = (zz55_l4 N (zz55_X4 kX) m) := (funext fun a0 => (funext fun b1 => (funext fun i5 => zz55_iter4 N kX kO m a0 b1 i5)))
    refine (zz55_step4 N m kX kO a0 b1 i5).trans ?_
    rw [hrec]
    rfl
noncomputable abbrev zz55_K4 (N : Nat) : Ex → St → Option (Bool × Unit) := (blockK 0 (seqK ((A_zz55).shape 17) (run (A_zz55) N (codeAt Try.f27 [1, 1, 1])) zz55_z))
noncomputable abbrev zz55_k4 (N : Nat) : St → Option (Bool × Unit) := fun st' => run (A_zz55) N (codeAt Try.f27 [1, 1, 1]) st' zz55_z
theorem zz55_after4 (N : Nat) : zz55_X4 (zz55_k4 N) = zz55_a4 := by kernel_rfl
theorem zz55_in4 (N : Nat) (a0 : (List (Int × (Int × Unit)))) (b1 : (List (Int × (Int × Unit)))) (i5 : Int) : zz55_R4 N N (zz55_K4 N) a0 b1 i5 = zz55_F4 N a0 b1 i5 :=
  have h : zz55_X4 (zz55_k4 N) = (zz55_a4) := zz55_after4 N
  ((iter_ex (fun st => by kernel_rfl) (fun st => by kernel_rfl)).trans (zz55_iter4 N (zz55_k4 N) (fun j st => (zz55_K4 N) (.exit j) st) N a0 b1 i5)).trans (congrArg (fun k => zz55_l4 N k N a0 b1 i5) h)
theorem run0_zz55 (N : Nat) (x : (S_zz55).a.den) : runF (A_zz55) N Try.f27 S_zz55 x = (zz55_s (zz55_R4 N N (zz55_K4 N)) x.1 x.2.1) := by kernel_rfl
theorem run_zz55 (N : Nat) (x : (S_zz55).a.den) : runF (A_zz55) N Try.f27 S_zz55 x = zz55 N x.1 x.2.1 := by
  refine (run0_zz55 N x).trans ?_
  rw [(funext fun a0 => (funext fun b1 => (funext fun i5 => zz55_in4 N a0 b1 i5)))]
  rfl
theorem fn_zz55 : FnOk Try.prog 27 := ⟨_, Try.func27, by kernel_rfl, by kernel_rfl⟩
theorem good_zz55 : Gx.Good Try.prog 27 S_zz55 := good_of_run Try.func27 (of_decide_eq_true (by kernel_rfl)) fun x r h => ⟨A_zz55, big, mkCfg_ok tabOk, mkCfg_sigs (show SigsOk Try.prog [(75, S_zz54)] from ⟨⟨fn_zz54, good_zz54⟩, trivial⟩), (run_zz55 big x).trans h⟩

/-! zz56 -/
def zz56_b4 (rec : Y4 → Y4 → Int → Option (Bool × Unit)) (k : Option (Bool × Unit)) (a0 : Y4) (b1 : Y4) (i5 : Int) : Option (Bool × Unit) :=
  cond (decide (i5 < (a0.length : Int)))
  ((atI a0 i5).bind fun xq1 =>
  (atI b1 i5).bind fun xq2 =>
  cond (decide (xq1 ≠ xq2))
  (some (false, (())))
  (rec a0 b1 (IntKind.i64.wrap (i5 + (1 : Int)))))
  (k)
def zz56_a4 : Option (Bool × Unit) :=
  some (true, (()))
def zz56_s (L4 : Y4 → Y4 → Int → Option (Bool × Unit)) (a_0 : Y4) (b_1 : Y4) : Option (Bool × Unit) :=
  cond (decide ((a_0.length : Int) ≠ (b_1.length : Int)))
  (some (false, (())))
  (L4 a_0 b_1 (0 : Int))
def zz56_l4 (N : Nat) (k : Option (Bool × Unit)) : Nat → Y4 → Y4 → Int → Option (Bool × Unit)
  | 0, _, _, _ => none
  | m + 1, a0, b1, i5 => zz56_b4 (zz56_l4 N k m) k a0 b1 i5
def zz56_F4 (N : Nat) (a0 : Y4) (b1 : Y4) (i5 : Int) : Option (Bool × Unit) := zz56_l4 N (zz56_a4) N a0 b1 i5
def zz56 (N : Nat) (a_0 : Y4) (b_1 : Y4) : Option (Bool × Unit) := zz56_s (zz56_F4 N) a_0 b_1
def S_zz56 : Sig := { a := (.pair (.sl I) (.pair (.sl I) .unit)), md := [0, 0], mf := [], m := .unit, r := .bool, rf := .i, f := fun x => zz56 big x.1 x.2.1 }
def A_zz56 : Cfg := mkCfg tab [] [(8, [.as (.sl I) .i, .as (.sl I) .i, .drop, .drop, .drop, .as I .i]), (17, [])]
noncomputable def zz56_R4 (N n : Nat) (K : Ex → St → Option (Bool × Unit)) (a0 : Y4) (b1 : Y4) (i5 : Int) : Option (Bool × Unit) := iter ((A_zz56).shape 8) (run (A_zz56) N (codeAt Try.f28 [1, 1, 0, 1, 0, 0])) n ([.val (.sl I) .i a0, .val (.sl I) .i b1, .u, .u, .u, .val I .i i5] ++ List.replicate 20 .u) K
noncomputable abbrev zz56_z : Ex → St → Option (Bool × Unit) := finish (A_zz56) S_zz56 Try.f28.results.toList
noncomputable abbrev zz56_X4 (kX : St → Option (Bool × Unit)) : Option (Bool × Unit) := kX ([] ++ List.replicate 26 .u)
noncomputable abbrev zz56_E4 (kX : St → Option (Bool × Unit)) (kO : Nat → St → Option (Bool × Unit)) : Ex → St → Option (Bool × Unit) := exK zz56_z 0 ((A_zz56).shape 17) kX kO
theorem zz56_step4 (N : Nat) (m : Nat) (kX : St → Option (Bool × Unit)) (kO : Nat → St → Option (Bool × Unit)) (a0 : Y4) (b1 : Y4) (i5 : Int) : zz56_R4 N (m + 1) (zz56_E4 kX kO) a0 b1 i5 = zz56_b4 (zz56_R4 N m (zz56_E4 kX kO)) (zz56_X4 kX) a0 b1 i5 := by kernel_rfl
theorem zz56_iter4 (N : Nat) (kX : St → Option (Bool × Unit)) (kO : Nat → St → Option (Bool × Unit)) : ∀ (n : Nat) (a0 : Y4) (b1 : Y4) (i5 : Int), zz56_R4 N n (zz56_E4 kX kO) a0 b1 i5 = zz56_l4 N (zz56_X4 kX) n a0 b1 i5
  | 0, _, _, _ => rfl
  | m + 1, a0, b1, i5 => by
    have hrec : zz56_R4 N m (zz56_E4 kX kO) = (zz56_l4 N (zz56_X4 kX) m) := (funext fun a0 => (funext fun b1 => (funext fun i5 => zz56_iter4 N kX kO m a0 b1 i5)))
    refine (zz56_step4 N m kX kO a0 b1 i5).trans ?_
    rw [hrec]
    rfl
noncomputable abbrev zz56_K4 (N : Nat) : Ex → St → Option (Bool × Unit) := (blockK 0 (seqK ((A_zz56).shape 17) (run (A_zz56) N (codeAt Try.f28 [1, 1, 1])) zz56_z))
noncomputable abbrev zz56_k4 (N : Nat) : St → Option (Bool × Unit) := fun st' => run (A_zz56) N (codeAt Try.f28 [1, 1, 1]) st' zz56_z
theorem zz56_after4 (N : Nat) : zz56_X4 (zz56_k4 N) = zz56_a4 := by kernel_rfl
theorem zz56_in4 (N : Nat) (a0 : Y4) (b1 : Y4) (i5 : Int) : zz56_R4 N N (zz56_K4 N) a0 b1 i5 = zz56_F4 N a0 b1 i5 :=
  have h : zz56_X4 (zz56_k4 N) = (zz56_a4) := zz56_after4 N
  ((iter_ex (fun st => by kernel_rfl) (fun st => by kernel_rfl)).trans (zz56_iter4 N (zz56_k4 N) (fun j st => (zz56_K4 N) (.exit j) st) N a0 b1 i5)).trans (congrArg (fun k => zz56_l4 N k N a0 b1 i5) h)
theorem run0_zz56 (N : Nat) (x : (S_zz56).a.den) : runF (A_zz56) N Try.f28 S_zz56 x = (zz56_s (zz56_R4 N N (zz56_K4 N)) x.1 x.2.1) := by kernel_rfl
theorem run_zz56 (N : Nat) (x : (S_zz56).a.den) : runF (A_zz56) N Try.f28 S_zz56 x = zz56 N x.1 x.2.1 := by
  refine (run0_zz56 N x).trans ?_
  rw [(funext fun a0 => (funext fun b1 => (funext fun i5 => zz56_in4 N a0 b1 i5)))]
  rfl
theorem fn_zz56 : FnOk Try.prog 28 := ⟨_, Try.func28, by kernel_rfl, by kernel_rfl⟩
theorem good_zz56 : Gx.Good Try.prog 28 S_zz56 := good_of_run Try.func28 (of_decide_eq_true (by kernel_rfl)) fun x r h => ⟨A_zz56, big, mkCfg_ok tabOk, mkCfg_sigs (show SigsOk Try.prog [] from trivial), (run_zz56 big x).trans h⟩

/-! zz57 -/
def zz57_b4 (rec : Y3 → Y3 → Int → Option (Bool × Unit)) (k : Option (Bool × Unit)) (a0 : Y3) (b1 : Y3) (i5 : Int) : Option (Bool × Unit) :=
  cond (decide (i5 < (a0.length : Int)))
  ((atI a0 i5).bind fun xq1 =>
  (atI b1 i5).bind fun xq2 =>
  (zz56 big xq1 xq2).bind fun rq3 =>
  cond (!rq3.1)
  (some (false, (())))
  (rec a0 b1 (IntKind.i64.wrap (i5 + (1 : Int)))))
  (k)
def zz57_a4 : Option (Bool × Unit) :=
  some (true, (()))
def zz57_s (L4 : Y3 → Y3 → Int → Option (Bool × Unit)) (a_0 : Y3) (b_1 : Y3) : Option (Bool × Unit) :=
  cond (decide ((a_0.length : Int) ≠ (b_1.length : Int)))
  (some (false, (())))
  (L4 a_0 b_1 (0 : Int))
def zz57_l4 (N : Nat) (k : Option (Bool × Unit)) : Nat → Y3 → Y3 → Int → Option (Bool × Unit)
  | 0, _, _, _ => none
  | m + 1, a0, b1, i5 => zz57_b4 (zz57_l4 N k m) k a0 b1 i5
def zz57_F4 (N : Nat) (a0 : Y3) (b1 : Y3) (i5 : Int) : Option (Bool × Unit) := zz57_l4 N (zz57_a4) N a0 b1 i5
def zz57 (N : Nat) (a_0 : Y3) (b_1 : Y3) : Option (Bool × Unit) := zz57_s (zz57_F4 N) a_0 b_1
def S_zz57 : Sig := { a := (.pair (.sl (.sl I)) (.pair (.sl (.sl I)) .unit)), md := [0, 0], mf := [], m := .unit, r := .bool, rf := .i, f := fun x => zz57 big x.1 x.2.1 }
def A_zz57 : Cfg := mkCfg tab [(28, S_zz56)] [(8, [.as (.sl (.sl I)) .i, .as (.sl (.sl I)) .i, .drop, .drop, .drop, .as I .i]), (17, [])]
noncomputable def zz57_R4 (N n : Nat) (K : Ex → St → Option (Bool × Unit)) (a0 : Y3) (b1 : Y3) (i5 : Int) : Option (Bool × Unit) := iter ((A_zz57).shape 8) (run (A_zz57) N (codeAt Try.f63 [1, 1, 0, 1, 0, 0])) n ([.val (.sl (.sl I)) .i a0, .val (.sl (.sl I)) .i b1, .u, .u, .u, .val I .i i5] ++ List.replicate 21 .u) K
noncomputable abbrev zz57_z : Ex → St → Option (Bool × Unit) := finish (A_zz57) S_zz57 Try.f63.results.toList
noncomputable abbrev zz57_X4 (kX : St → Option (Bool × Unit)) : Option (Bool × Unit) := kX ([] ++ List.replicate 27 .u)
noncomputable abbrev zz57_E4 (kX : St → Option (Bool × Unit)) (kO : Nat → St → Option (Bool × Unit)) : Ex → St → Option (Bool × Unit) := exK zz57_z 0 ((A_zz57).shape 17) kX kO
theorem zz57_step4 (N : Nat) (m : Nat) (kX : St → Option (Bool × Unit)) (kO : Nat → St → Option (Bool × Unit)) (a0 : Y3) (b1 : Y3) (i5 : Int) : zz57_R4 N (m + 1) (zz57_E4 kX kO) a0 b1 i5 = zz57_b4 (zz57_R4 N m (zz57_E4 kX kO)) (zz57_X4 kX) a0 b1 i5 := by kernel_rfl
theorem zz57_iter4 (N : Nat) (kX : St → Option (Bool × Unit)) (kO : Nat → St → Option (Bool × Unit)) : ∀ (n : Nat) (a0 : Y3) (b1 : Y3) (i5 : Int), zz57_R4 N n (zz57_E4 kX kO) a0 b1 i5 = zz57_l4 N (zz57_X4 kX) n a0 b1 i5
  | 0, _, _, _ => rfl
  | m + 1, a0, b1, i5 => by
    have hrec : zz57_R4 N m (zz57_E4 kX kO) = (zz57_l4 N (zz57_X4 kX) m) := (funext fun a0 => (funext fun b1 => (funext fun i5 => zz57_iter4 N kX kO m a0 b1 i5)))
    refine (zz57_step4 N m kX kO a0 b1 i5).trans ?_
    rw [hrec]
    rfl
noncomputable abbrev zz57_K4 (N : Nat) : Ex → St → Option (Bool × Unit) := (blockK 0 (seqK ((A_zz57).shape 17) (run (A_zz57) N (codeAt Try.f63 [1, 1, 1])) zz57_z))
noncomputable abbrev zz57_k4 (N : Nat) : St → Option (Bool × Unit) := fun st' => run (A_zz57) N (codeAt Try.f63 [1, 1, 1]) st' zz57_z
theorem zz57_after4 (N : Nat) : zz57_X4 (zz57_k4 N) = zz57_a4 := by kernel_rfl
theorem zz57_in4 (N : Nat) (a0 : Y3) (b1 : Y3) (i5 : Int) : zz57_R4 N N (zz57_K4 N) a0 b1 i5 = zz57_F4 N a0 b1 i5 :=
  have h : zz57_X4 (zz57_k4 N) = (zz57_a4) := zz57_after4 N
  ((iter_ex (fun st => by kernel_rfl) (fun st => by kernel_rfl)).trans (zz57_iter4 N (zz57_k4 N) (fun j st => (zz57_K4 N) (.exit j) st) N a0 b1 i5)).trans (congrArg (fun k => zz57_l4 N k N a0 b1 i5) h)
theorem run0_zz57 (N : Nat) (x : (S_zz57).a.den) : runF (A_zz57) N Try.f63 S_zz57 x = (zz57_s (zz57_R4 N N (zz57_K4 N)) x.1 x.2.1) := by kernel_rfl
theorem run_zz57 (N : Nat) (x : (S_zz57).a.den) : runF (A_zz57) N Try.f63 S_zz57 x = zz57 N x.1 x.2.1 := by
  refine (run0_zz57 N x).trans ?_
  rw [(funext fun a0 => (funext fun b1 => (funext fun i5 => zz57_in4 N a0 b1 i5)))]
  rfl
theorem fn_zz57 : FnOk Try.prog 63 := ⟨_, Try.func63, by kernel_rfl, by kernel_rfl⟩
theorem good_zz57 : Gx.Good Try.prog 63 S_zz57 := good_of_run Try.func63 (of_decide_eq_true (by kernel_rfl)) fun x r h => ⟨A_zz57, big, mkCfg_ok tabOk, mkCfg_sigs (show SigsOk Try.prog [(28, S_zz56)] from ⟨⟨fn_zz56, good_zz56⟩, trivial⟩), (run_zz57 big x).trans h⟩

/-! zz58 -/
def zz58_s (a_0 : Y2) (b_1 : Y2) : Option (Bool × Unit) :=
  (zz57 big a_0.1 b_1.1).bind fun rq1 =>
  cond (!rq1.1)
  (some (false, (())))
  (some (true, (())))
def zz58 (a_0 : Y2) (b_1 : Y2) : Option (Bool × Unit) := zz58_s a_0 b_1
def S_zz58 : Sig := { a := (.pair (.pair (.sl (.sl I)) .unit) (.pair (.pair (.sl (.sl I)) .unit) .unit)), md := [0, 0], mf := [], m := .unit, r := .bool, rf := .i, f := fun x => zz58 x.1 x.2.1 }
def A_zz58 : Cfg := mkCfg tab [(63, S_zz57)] []
theorem run_zz58 (N : Nat) (x : (S_zz58).a.den) : runF (A_zz58) N Try.f20 S_zz58 x = zz58 x.1 x.2.1 := by kernel_rfl
theorem fn_zz58 : FnOk Try.prog 20 := ⟨_, Try.func20, by kernel_rfl, by kernel_rfl⟩
theorem good_zz58 : Gx.Good Try.prog 20 S_zz58 := good_of_run Try.func20 (of_decide_eq_true (by kernel_rfl)) fun x r h => ⟨A_zz58, big, mkCfg_ok tabOk, mkCfg_sigs (show SigsOk Try.prog [(63, S_zz57)] from ⟨⟨fn_zz57, good_zz57⟩, trivial⟩), (run_zz58 big x).trans h⟩

/-! zz59 -/
def zz59_b2 (rec : Y4 → Int → Int → Option Y6) (k : Y4 → Int → Option Y6) (a0 : Y4) (k1 : Int) (i5 : Int) : Option Y6 :=
  cond (decide (i5 < (a0.length : Int)))
  ((atI a0 i5).bind fun _ =>
  (a0[i5.toNat]?).bind fun xq1 =>
  rec (a0.set i5.toNat k1) (IntKind.i64.wrap (k1 + (1 : Int))) (IntKind.i64.wrap (i5 + (1 : Int))))
  (k a0 k1)
def zz59_a2 (a0 : Y4) (k1 : Int) : Option Y6 :=
  some (k1, (a0, ()))
def zz59_s (L2 : Y4 → Int → Int → Option Y6) (a_0 : Y4) (k_1 : Int) : Option Y6 :=
  L2 a_0 k_1 (0 : Int)
def zz59_l2 (N : Nat) (k : Y4 → Int → Option Y6) : Nat → Y4 → Int → Int → Option Y6
  | 0, _, _, _ => none
  | m + 1, a0, k1, i5 => zz59_b2 (zz59_l2 N k m) k a0 k1 i5
def zz59_F2 (N : Nat) (a0 : Y4) (k1 : Int) (i5 : Int) : Option Y6 := zz59_l2 N (zz59_a2) N a0 k1 i5
def zz59 (N : Nat) (a_0 : Y4) (k_1 : Int) : Option Y6 := zz59_s (zz59_F2 N) a_0 k_1
def S_zz59 : Sig := { a := (.pair (.sl I) (.pair I .unit)), md := [1, 0], mf := [(.o .i)], m := (.pair (.sl I) .unit), r := I, rf := .i, f := fun x => zz59 big x.1 x.2.1 }
def A_zz59 : Cfg := mkCfg tab [] [(4, [.as (.sl I) (.o .i), .as I .i, .drop, .drop, .drop, .as I .i]), (13, [.as (.sl I) (.o .i), .as I .i])]
noncomputable def zz59_R2 (N n : Nat) (K : Ex → St → Option Y6) (a0 : Y4) (k1 : Int) (i5 : Int) : Option Y6 := iter ((A_zz59).shape 4) (run (A_zz59) N (codeAt Try.f29 [1, 0, 1, 0, 0])) n ([.val (.sl I) (.o .i) a0, .val I .i k1, .u, .u, .u, .val I .i i5] ++ List.replicate 13 .u) K
noncomputable abbrev zz59_z : Ex → St → Option Y6 := finish (A_zz59) S_zz59 Try.f29.results.toList
noncomputable abbrev zz59_X2 (kX : St → Option Y6) : Y4 → Int → Option Y6 := fun (a0 : Y4) (k1 : Int) => kX ([.val (.sl I) (.o .i) a0, .val I .i k1] ++ List.replicate 17 .u)
noncomputable abbrev zz59_E2 (kX : St → Option Y6) (kO : Nat → St → Option Y6) : Ex → St → Option Y6 := exK zz59_z 0 ((A_zz59).shape 13) kX kO
theorem zz59_step2 (N : Nat) (m : Nat) (kX : St → Option Y6) (kO : Nat → St → Option Y6) (a0 : Y4) (k1 : Int) (i5 : Int) : zz59_R2 N (m + 1) (zz59_E2 kX kO) a0 k1 i5 = zz59_b2 (zz59_R2 N m (zz59_E2 kX kO)) (zz59_X2 kX) a0 k1 i5 := by kernel_rfl
theorem zz59_iter2 (N : Nat) (kX : St → Option Y6) (kO : Nat → St → Option Y6) : ∀ (n : Nat) (a0 : Y4) (k1 : Int) (i5 : Int), zz59_R2 N n (zz59_E2 kX kO) a0 k1 i5 = zz59_l2 N (zz59_X2 kX) n a0 k1 i5
  | 0, _, _, _ => rfl
  | m + 1, a0, k1, i5 => by
    have hrec : zz59_R2 N m (zz59_E2 kX kO) = (zz59_l2 N (zz59_X2 kX) m) := (funext fun a0 => (funext fun k1 => (funext fun i5 => zz59_iter2 N kX kO m a0 k1 i5)))
    refine (zz59_step2 N m kX kO a0 k1 i5).trans ?_
    rw [hrec]
    rfl
noncomputable abbrev zz59_K2 (N : Nat) : Ex → St → Option Y6 := (blockK 0 (seqK ((A_zz59).shape 13) (run (A_zz59) N (codeAt Try.f29 [1, 1])) zz59_z))
noncomputable abbrev zz59_k2 (N : Nat) : St → Option Y6 := fun st' => run (A_zz59) N (codeAt Try.f29 [1, 1]) st' zz59_z
theorem zz59_after2 (N : Nat) (a0 : Y4) (k1 : Int) : zz59_X2 (zz59_k2 N) a0 k1 = zz59_a2 a0 k1 := by kernel_rfl
theorem zz59_in2 (N : Nat) (a0 : Y4) (k1 : Int) (i5 : Int) : zz59_R2 N N (zz59_K2 N) a0 k1 i5 = zz59_F2 N a0 k1 i5 :=
  have h : zz59_X2 (zz59_k2 N) = (zz59_a2) := (funext fun a0 => (funext fun k1 => zz59_after2 N a0 k1))
  ((iter_ex (fun st => by kernel_rfl) (fun st => by kernel_rfl)).trans (zz59_iter2 N (zz59_k2 N) (fun j st => (zz59_K2 N) (.exit j) st) N a0 k1 i5)).trans (congrArg (fun k => zz59_l2 N k N a0 k1 i5) h)
theorem run0_zz59 (N : Nat) (x : (S_zz59).a.den) : runF (A_zz59) N Try.f29 S_zz59 x = (zz59_s (zz59_R2 N N (zz59_K2 N)) x.1 x.2.1) := by kernel_rfl
theorem run_zz59 (N : Nat) (x : (S_zz59).a.den) : runF (A_zz59) N Try.f29 S_zz59 x = zz59 N x.1 x.2.1 := by
  refine (run0_zz59 N x).trans ?_
  rw [(funext fun a0 => (funext fun k1 => (funext fun i5 => zz59_in2 N a0 k1 i5)))]
  rfl
theorem fn_zz59 : FnOk Try.prog 29 := ⟨_, Try.func29, by kernel_rfl, by kernel_rfl⟩
theorem good_zz59 : Gx.Good Try.prog 29 S_zz59 := good_of_run Try.func29 (of_decide_eq_true (by kernel_rfl)) fun x r h => ⟨A_zz59, big, mkCfg_ok tabOk, mkCfg_sigs (show SigsOk Try.prog [] from trivial), (run_zz59 big x).trans h⟩

/-! zz60 -/
def zz60_b2 (rec : Y3 → Int → Int → Option (Int × Y2)) (k : Y3 → Int → Option (Int × Y2)) (a0 : Y3) (k1 : Int) (i5 : Int) : Option (Int × Y2) :=
  cond (decide (i5 < (a0.length : Int)))
  ((atI a0 i5).bind fun _ =>
  (a0[i5.toNat]?).bind fun xq1 =>
  (a0[i5.toNat]?).bind fun xq2 =>
  (zz59 big xq2 k1).bind fun rq3 =>
  (a0[i5.toNat]?).bind fun xq4 =>
  (a0[i5.toNat]?).bind fun xq5 =>
  rec (a0.set i5.toNat rq3.2.1) rq3.1 (IntKind.i64.wrap (i5 + (1 : Int))))
  (k a0 k1)
def zz60_a2 (a0 : Y3) (k1 : Int) : Option (Int × Y2) :=
  some (k1, (a0, ()))
def zz60_s (L2 : Y3 → Int → Int → Option (Int × Y2)) (a_0 : Y3) (k_1 : Int) : Option (Int × Y2) :=
  L2 a_0 k_1 (0 : Int)
def zz60_l2 (N : Nat) (k : Y3 → Int → Option (Int × Y2)) : Nat → Y3 → Int → Int → Option (Int × Y2)
  | 0, _, _, _ => none
  | m + 1, a0, k1, i5 => zz60_b2 (zz60_l2 N k m) k a0 k1 i5
def zz60_F2 (N : Nat) (a0 : Y3) (k1 : Int) (i5 : Int) : Option (Int × Y2) := zz60_l2 N (zz60_a2) N a0 k1 i5
def zz60 (N : Nat) (a_0 : Y3) (k_1 : Int) : Option (Int × Y2) := zz60_s (zz60_F2 N) a_0 k_1
def S_zz60 : Sig := { a := (.pair (.sl (.sl I)) (.pair I .unit)), md := [1, 0], mf := [(.o (.o .i))], m := (.pair (.sl (.sl I)) .unit), r := I, rf := .i, f := fun x => zz60 big x.1 x.2.1 }
def A_zz60 : Cfg := mkCfg tab [(29, S_zz59)] [(4, [.as (.sl (.sl I)) (.o (.o .i)), .as I .i, .drop, .drop, .drop, .as I .i]), (11, [.as (.sl (.sl I)) (.o (.o .i)), .as I .i])]
noncomputable def zz60_R2 (N n : Nat) (K : Ex → St → Option (Int × Y2)) (a0 : Y3) (k1 : Int) (i5 : Int) : Option (Int × Y2) := iter ((A_zz60).shape 4) (run (A_zz60) N (codeAt Try.f64 [1, 0, 1, 0, 0])) n ([.val (.sl (.sl I)) (.o (.o .i)) a0, .val I .i k1, .u, .u, .u, .val I .i i5] ++ List.replicate 13 .u) K
noncomputable abbrev zz60_z : Ex → St → Option (Int × Y2) := finish (A_zz60) S_zz60 Try.f64.results.toList
noncomputable abbrev zz60_X2 (kX : St → Option (Int × Y2)) : Y3 → Int → Option (Int × Y2) := fun (a0 : Y3) (k1 : Int) => kX ([.val (.sl (.sl I)) (.o (.o .i)) a0, .val I .i k1] ++ List.replicate 17 .u)
noncomputable abbrev zz60_E2 (kX : St → Option (Int × Y2)) (kO : Nat → St → Option (Int × Y2)) : Ex → St → Option (Int × Y2) := exK zz60_z 0 ((A_zz60).shape 11) kX kO
theorem zz60_step2 (N : Nat) (m : Nat) (kX : St → Option (Int × Y2)) (kO : Nat → St → Option (Int × Y2)) (a0 : Y3) (k1 : Int) (i5 : Int) : zz60_R2 N (m + 1) (zz60_E2 kX kO) a0 k1 i5 = zz60_b2 (zz60_R2 N m (zz60_E2 kX kO)) (zz60_X2 kX) a0 k1 i5 := by kernel_rfl
theorem zz60_iter2 (N : Nat) (kX : St → Option (Int × Y2)) (kO : Nat → St → Option (Int × Y2)) : ∀ (n : Nat) (a0 : Y3) (k1 : Int) (i5 : Int), zz60_R2 N n (zz60_E2 kX kO) a0 k1 i5 = zz60_l2 N (zz60_X2 kX) n a0 k1 i5
  | 0, _, _, _ => rfl
  | m + 1, a0, k1, i5 => by
    have hrec : zz60_R2 N m (zz60_E2 kX kO) = (zz60_l2 N (zz60_X2 kX) m) := (funext fun a0 => (funext fun k1 => (funext fun i5 => zz60_iter2 N kX kO m a0 k1 i5)))
    refine (zz60_step2 N m kX kO a0 k1 i5).trans ?_
    rw [hrec]
    rfl
noncomputable abbrev zz60_K2 (N : Nat) : Ex → St → Option (Int × Y2) := (blockK 0 (seqK ((A_zz60).shape 11) (run (A_zz60) N (codeAt Try.f64 [1, 1])) zz60_z))
noncomputable abbrev zz60_k2 (N : Nat) : St → Option (Int × Y2) := fun st' => run (A_zz60) N (codeAt Try.f64 [1, 1]) st' zz60_z
theorem zz60_after2 (N : Nat) (a0 : Y3) (k1 : Int) : zz60_X2 (zz60_k2 N) a0 k1 = zz60_a2 a0 k1 := by kernel_rfl
theorem zz60_in2 (N : Nat) (a0 : Y3) (k1 : Int) (i5 : Int) : zz60_R2 N N (zz60_K2 N) a0 k1 i5 = zz60_F2 N a0 k1 i5 :=
  have h : zz60_X2 (zz60_k2 N) = (zz60_a2) := (funext fun a0 => (funext fun k1 => zz60_after2 N a0 k1))
  ((iter_ex (fun st => by kernel_rfl) (fun st => by kernel_rfl)).trans (zz60_iter2 N (zz60_k2 N) (fun j st => (zz60_K2 N) (.exit j) st) N a0 k1 i5)).trans (congrArg (fun k => zz60_l2 N k N a0 k1 i5) h)
theorem run0_zz60 (N : Nat) (x : (S_zz60).a.den) : runF (A_zz60) N Try.f64 S_zz60 x = (zz60_s (zz60_R2 N N (zz60_K2 N)) x.1 x.2.1) := by kernel_rfl
theorem run_zz60 (N : Nat) (x : (S_zz60).a.den) : runF (A_zz60) N Try.f64 S_zz60 x = zz60 N x.1 x.2.1 := by
  refine (run0_zz60 N x).trans ?_
  rw [(funext fun a0 => (funext fun k1 => (funext fun i5 => zz60_in2 N a0 k1 i5)))]
  rfl
theorem fn_zz60 : FnOk Try.prog 64 := ⟨_, Try.func64, by kernel_rfl, by kernel_rfl⟩
theorem good_zz60 : Gx.Good Try.prog 64 S_zz60 := good_of_run Try.func64 (of_decide_eq_true (by kernel_rfl)) fun x r h => ⟨A_zz60, big, mkCfg_ok tabOk, mkCfg_sigs (show SigsOk Try.prog [(29, S_zz59)] from ⟨⟨fn_zz59, good_zz59⟩, trivial⟩), (run_zz60 big x).trans h⟩

/-! zz61 -/
def zz61 (a_0 : Y2) (k_1 : Int) : Option (Int × (Y2 × Unit)) := (zz60 big a_0.1 k_1).bind fun r => some (r.1, ((r.2.1, ()), ()))
def S_zz61 : Sig := { a := (.pair (.pair (.sl (.sl I)) .unit) (.pair I .unit)), md := [1, 0], mf := [(.p (.o (.o .i)) .i)], m := (.pair (.pair (.sl (.sl I)) .unit) .unit), r := I, rf := .i, f := fun x => zz61 x.1 x.2.1 }
theorem fn_zz61 : FnOk Try.prog 21 := ⟨_, Try.func21, by kernel_rfl, by kernel_rfl⟩
theorem good_zz61 : Gx.Good Try.prog 21 S_zz61   := good_bx1 (A := mkCfg tab [] []) (T := 31) (TS := 22) (mkCfg_ok tabOk) Try.func21 (by kernel_rfl) (by kernel_rfl) fn_zz60 (by kernel_rfl) (by kernel_rfl) good_zz60

/-! zz62 -/
def zz62_b5 (rec : (List (Int × (Int × Unit))) → Int → Int → Int → Option (Int × ((List (Int × (Int × Unit))) × Unit))) (k : (List (Int × (Int × Unit))) → Int → Int → Option (Int × ((List (Int × (Int × Unit))) × Unit))) (a0 : (List (Int × (Int × Unit)))) (k1 : Int) (i5 : Int) (j6 : Int) : Option (Int × ((List (Int × (Int × Unit))) × Unit)) :=
  cond (decide (j6 < (2 : Int)))
  ((atI a0 i5).bind fun _ =>
  cond (decide (j6 = (0 : Int)))
  ((a0[i5.toNat]?).bind fun xq1 =>
  (a0[i5.toNat]?).bind fun xq2 =>
  rec (a0.set i5.toNat (k1, xq2.2)) (IntKind.i64.wrap (k1 + (1 : Int))) i5 (IntKind.i64.wrap (j6 + (1 : Int))))
  (cond (decide (j6 = (1 : Int)))
  ((a0[i5.toNat]?).bind fun xq3 =>
  (a0[i5.toNat]?).bind fun xq4 =>
  rec (a0.set i5.toNat (xq4.1, (k1, xq4.2.2))) (IntKind.i64.wrap (k1 + (1 : Int))) i5 (IntKind.i64.wrap (j6 + (1 : Int))))
  (none)))
  (k a0 k1 i5)
def zz62_a5 (rec : (List (Int × (Int × Unit))) → Int → Int → Option (Int × ((List (Int × (Int × Unit))) × Unit))) (a0 : (List (Int × (Int × Unit)))) (k1 : Int) (i5 : Int) : Option (Int × ((List (Int × (Int × Unit))) × Unit)) :=
  rec a0 k1 (IntKind.i64.wrap (i5 + (1 : Int)))
def zz62_b2 (L5 : (List (Int × (Int × Unit))) → Int → Int → Int → Option (Int × ((List (Int × (Int × Unit))) × Unit))) (k : (List (Int × (Int × Unit))) → Int → Option (Int × ((List (Int × (Int × Unit))) × Unit))) (a0 : (List (Int × (Int × Unit)))) (k1 : Int) (i5 : Int) : Option (Int × ((List (Int × (Int × Unit))) × Unit)) :=
  cond (decide (i5 < (a0.length : Int)))
  (L5 a0 k1 i5 (0 : Int))
  (k a0 k1)
def zz62_a2 (a0 : (List (Int × (Int × Unit)))) (k1 : Int) : Option (Int × ((List (Int × (Int × Unit))) × Unit)) :=
  some (k1, (a0, ()))
def zz62_s (L2 : (List (Int × (Int × Unit))) → Int → Int → Option (Int × ((List (Int × (Int × Unit))) × Unit))) (a_0 : (List (Int × (Int × Unit)))) (k_1 : Int) : Option (Int × ((List (Int × (Int × Unit))) × Unit)) :=
  L2 a_0 k_1 (0 : Int)
def zz62_l5 (N : Nat) (k : (List (Int × (Int × Unit))) → Int → Int → Option (Int × ((List (Int × (Int × Unit))) × Unit))) : Nat → (List (Int × (Int × Unit))) → Int → Int → Int → Option (Int × ((List (Int × (Int × Unit))) × Unit))
  | 0, _, _, _, _ => none
  | m + 1, a0, k1, i5, j6 => zz62_b5 (zz62_l5 N k m) k a0 k1 i5 j6
def zz62_F5 (N : Nat) (rec : (List (Int × (Int × Unit))) → Int → Int → Option (Int × ((List (Int × (Int × Unit))) × Unit))) (k : (List (Int × (Int × Unit))) → Int → Option (Int × ((List (Int × (Int × Unit))) × Unit))) (a0 : (List (Int × (Int × Unit)))) (k1 : Int) (i5 : Int) (j6 : Int) : Option (Int × ((List (Int × (Int × Unit))) × Unit)) := zz62_l5 N (zz62_a5 rec) N a0 k1 i5 j6
def zz62_l2 (N : Nat) (k : (List (Int × (Int × Unit))) → Int → Option (Int × ((List (Int × (Int × Unit))) × Unit))) : Nat → (List (Int × (Int × Unit))) → Int → Int → Option (Int × ((List (Int × (Int × Unit))) × Unit))
  | 0, _, _, _ => none
  | m + 1, a0, k1, i5 => zz62_b2 (zz62_F5 N (zz62_l2 N k m) k) k a0 k1 i5
def zz62_F2 (N : Nat) (a0 : (List (Int × (Int × Unit)))) (k1 : Int) (i5 : Int) : Option (Int × ((List (Int × (Int × Unit))) × Unit)) := zz62_l2 N (zz62_a2) N a0 k1 i5
def zz62 (N : Nat) (a_0 : (List (Int × (Int × Unit)))) (k_1 : Int) : Option (Int × ((List (Int × (Int × Unit))) × Unit)) := zz62_s (zz62_F2 N) a_0 k_1
def S_zz62 : Sig := { a := (.pair (.sl (.pair I (.pair I .unit))) (.pair I .unit)), md := [1, 0], mf := [(.o .i)], m := (.pair (.sl (.pair I (.pair I .unit))) .unit), r := I, rf := .i, f := fun x => zz62 big x.1 x.2.1 }
def A_zz62 : Cfg := mkCfg tab [] [(4, [.as (.sl (.pair I (.pair I .unit))) (.o .i), .as I .i, .drop, .drop, .drop, .as I .i]), (10, [.as (.sl (.pair I (.pair I .unit))) (.o .i), .as I .i, .drop, .drop, .drop, .as I .i, .as I .i]), (19, [.as (.sl (.pair I (.pair I .unit))) (.o .i), .as I .i]), (7, [.as (.sl (.pair I (.pair I .unit))) (.o .i), .as I .i, .drop, .drop, .drop, .as I .i])]
noncomputable def zz62_R2 (N n : Nat) (K : Ex → St → Option (Int × ((List (Int × (Int × Unit))) × Unit))) (a0 : (List (Int × (Int × Unit)))) (k1 : Int) (i5 : Int) : Option (Int × ((List (Int × (Int × Unit))) × Unit)) := iter ((A_zz62).shape 4) (run (A_zz62) N (codeAt Try.f30 [1, 0, 1, 0, 0])) n ([.val (.sl (.pair I (.pair I .unit))) (.o .i) a0, .val I .i k1, .u, .u, .u, .val I .i i5] ++ List.replicate 20 .u) K
noncomputable def zz62_R5 (N n : Nat) (K : Ex → St → Option (Int × ((List (Int × (Int × Unit))) × Unit))) (a0 : (List (Int × (Int × Unit)))) (k1 : Int) (i5 : Int) (j6 : Int) : Option (Int × ((List (Int × (Int × Unit))) × Unit)) := iter ((A_zz62).shape 10) (run (A_zz62) N (codeAt Try.f30 [1, 0, 1, 0, 0, 1, 0, 0, 1, 0, 0])) n ([.val (.sl (.pair I (.pair I .unit))) (.o .i) a0, .val I .i k1, .u, .u, .u, .val I .i i5, .val I .i j6] ++ List.replicate 19 .u) K
noncomputable abbrev zz62_z : Ex → St → Option (Int × ((List (Int × (Int × Unit))) × Unit)) := finish (A_zz62) S_zz62 Try.f30.results.toList
noncomputable abbrev zz62_X2 (kX : St → Option (Int × ((List (Int × (Int × Unit))) × Unit))) : (List (Int × (Int × Unit))) → Int → Option (Int × ((List (Int × (Int × Unit))) × Unit)) := fun (a0 : (List (Int × (Int × Unit)))) (k1 : Int) => kX ([.val (.sl (.pair I (.pair I .unit))) (.o .i) a0, .val I .i k1] ++ List.replicate 24 .u)
noncomputable abbrev zz62_E2 (kX : St → Option (Int × ((List (Int × (Int × Unit))) × Unit))) (kO : Nat → St → Option (Int × ((List (Int × (Int × Unit))) × Unit))) : Ex → St → Option (Int × ((List (Int × (Int × Unit))) × Unit)) := exK zz62_z 0 ((A_zz62).shape 19) kX kO
noncomputable abbrev zz62_X5 (kX : St → Option (Int × ((List (Int × (Int × Unit))) × Unit))) : (List (Int × (Int × Unit))) → Int → Int → Option (Int × ((List (Int × (Int × Unit))) × Unit)) := fun (a0 : (List (Int × (Int × Unit)))) (k1 : Int) (i5 : Int) => kX ([.val (.sl (.pair I (.pair I .unit))) (.o .i) a0, .val I .i k1, .u, .u, .u, .val I .i i5] ++ List.replicate 20 .u)
noncomputable abbrev zz62_E5 (kX : St → Option (Int × ((List (Int × (Int × Unit))) × Unit))) (kO : Nat → St → Option (Int × ((List (Int × (Int × Unit))) × Unit))) : Ex → St → Option (Int × ((List (Int × (Int × Unit))) × Unit)) := exK zz62_z 2 ((A_zz62).shape 7) kX kO
theorem zz62_step5 (N : Nat) (m : Nat) (kX : St → Option (Int × ((List (Int × (Int × Unit))) × Unit))) (kO : Nat → St → Option (Int × ((List (Int × (Int × Unit))) × Unit))) (a0 : (List (Int × (Int × Unit)))) (k1 : Int) (i5 : Int) (j6 : Int) : zz62_R5 N (m + 1) (zz62_E5 kX kO) a0 k1 i5 j6 = zz62_b5 (zz62_R5 N m (zz62_E5 kX kO)) (zz62_X5 kX) a0 k1 i5 j6 := by kernel_rfl
theorem zz62_iter5 (N : Nat) (kX : St → Option (Int × ((List (Int × (Int × Unit))) × Unit))) (kO : Nat → St → Option (Int × ((List (Int × (Int × Unit))) × Unit))) : ∀ (n : Nat) (a0 : (List (Int × (Int × Unit)))) (k1 : Int) (i5 : Int) (j6 : Int), zz62_R5 N n (zz62_E5 kX kO) a0 k1 i5 j6 = zz62_l5 N (zz62_X5 kX) n a0 k1 i5 j6
  | 0, _, _, _, _ => rfl
  | m + 1, a0, k1, i5, j6 => by
    have hrec : zz62_R5 N m (zz62_E5 kX kO) = (zz62_l5 N (zz62_X5 kX) m) := (funext fun a0 => (funext fun k1 => (funext fun i5 => (funext fun j6 => zz62_iter5 N kX kO m a0 k1 i5 j6))))
    refine (zz62_step5 N m kX kO a0 k1 i5 j6).trans ?_
    rw [hrec]
    rfl
noncomputable abbrev zz62_K5 (N : Nat) (m : Nat) (kX : St → Option (Int × ((List (Int × (Int × Unit))) × Unit))) (kO : Nat → St → Option (Int × ((List (Int × (Int × Unit))) × Unit))) : Ex → St → Option (Int × ((List (Int × (Int × Unit))) × Unit)) := (blockK 2 (blockK 1 (seqK ((A_zz62).shape 7) (run (A_zz62) N (codeAt Try.f30 [1, 0, 1, 0, 0, 1, 1])) (iterK ((A_zz62).shape 4) (run (A_zz62) N (codeAt Try.f30 [1, 0, 1, 0, 0])) m (zz62_E2 kX kO)))))
noncomputable abbrev zz62_k5 (N : Nat) (m : Nat) (kX : St → Option (Int × ((List (Int × (Int × Unit))) × Unit))) (kO : Nat → St → Option (Int × ((List (Int × (Int × Unit))) × Unit))) : St → Option (Int × ((List (Int × (Int × Unit))) × Unit)) := fun st' => run (A_zz62) N (codeAt Try.f30 [1, 0, 1, 0, 0, 1, 1]) st' (iterK ((A_zz62).shape 4) (run (A_zz62) N (codeAt Try.f30 [1, 0, 1, 0, 0])) m (zz62_E2 kX kO))
theorem zz62_after5 (N : Nat) (m : Nat) (kX : St → Option (Int × ((List (Int × (Int × Unit))) × Unit))) (kO : Nat → St → Option (Int × ((List (Int × (Int × Unit))) × Unit))) (a0 : (List (Int × (Int × Unit)))) (k1 : Int) (i5 : Int) : zz62_X5 (zz62_k5 N m kX kO) a0 k1 i5 = zz62_a5 (zz62_R2 N m (zz62_E2 kX kO)) a0 k1 i5 := by kernel_rfl
theorem zz62_in5 (N : Nat) (m : Nat) (kX : St → Option (Int × ((List (Int × (Int × Unit))) × Unit))) (kO : Nat → St → Option (Int × ((List (Int × (Int × Unit))) × Unit))) (recF : (List (Int × (Int × Unit))) → Int → Int → Option (Int × ((List (Int × (Int × Unit))) × Unit))) (hrec : zz62_R2 N m (zz62_E2 kX kO) = recF) (a0 : (List (Int × (Int × Unit)))) (k1 : Int) (i5 : Int) (j6 : Int) : zz62_R5 N N (zz62_K5 N m kX kO) a0 k1 i5 j6 = zz62_F5 N recF (zz62_X2 kX) a0 k1 i5 j6 :=
  have h : zz62_X5 (zz62_k5 N m kX kO) = (zz62_a5 recF) := (funext fun a0 => (funext fun k1 => (funext fun i5 => (zz62_after5 N m kX kO a0 k1 i5).trans (by rw [hrec]))))
  ((iter_ex (fun st => by kernel_rfl) (fun st => by kernel_rfl)).trans (zz62_iter5 N (zz62_k5 N m kX kO) (fun j st => (zz62_K5 N m kX kO) (.exit j) st) N a0 k1 i5 j6)).trans (congrArg (fun k => zz62_l5 N k N a0 k1 i5 j6) h)
theorem zz62_step2 (N : Nat) (m : Nat) (kX : St → Option (Int × ((List (Int × (Int × Unit))) × Unit))) (kO : Nat → St → Option (Int × ((List (Int × (Int × Unit))) × Unit))) (a0 : (List (Int × (Int × Unit)))) (k1 : Int) (i5 : Int) : zz62_R2 N (m + 1) (zz62_E2 kX kO) a0 k1 i5 = zz62_b2 (zz62_R5 N N (zz62_K5 N m kX kO)) (zz62_X2 kX) a0 k1 i5 := by kernel_rfl
theorem zz62_iter2 (N : Nat) (kX : St → Option (Int × ((List (Int × (Int × Unit))) × Unit))) (kO : Nat → St → Option (Int × ((List (Int × (Int × Unit))) × Unit))) : ∀ (n : Nat) (a0 : (List (Int × (Int × Unit)))) (k1 : Int) (i5 : Int), zz62_R2 N n (zz62_E2 kX kO) a0 k1 i5 = zz62_l2 N (zz62_X2 kX) n a0 k1 i5
  | 0, _, _, _ => rfl
  | m + 1, a0, k1, i5 => by
    have hrec : zz62_R2 N m (zz62_E2 kX kO) = (zz62_l2 N (zz62_X2 kX) m) := (funext fun a0 => (funext fun k1 => (funext fun i5 => zz62_iter2 N kX kO m a0 k1 i5)))
    refine (zz62_step2 N m kX kO a0 k1 i5).trans ?_
    rw [(funext fun a0 => (funext fun k1 => (funext fun i5 => (funext fun j6 => zz62_in5 N m kX kO (zz62_l2 N (zz62_X2 kX) m) hrec a0 k1 i5 j6))))]
    rfl
noncomputable abbrev zz62_K2 (N : Nat) : Ex → St → Option (Int × ((List (Int × (Int × Unit))) × Unit)) := (blockK 0 (seqK ((A_zz62).shape 19) (run (A_zz62) N (codeAt Try.f30 [1, 1])) zz62_z))
noncomputable abbrev zz62_k2 (N : Nat) : St → Option (Int × ((List (Int × (Int × Unit))) × Unit)) := fun st' => run (A_zz62) N (codeAt Try.f30 [1, 1]) st' zz62_z
theorem zz62_after2 (N : Nat) (a0 : (List (Int × (Int × Unit)))) (k1 : Int) : zz62_X2 (zz62_k2 N) a0 k1 = zz62_a2 a0 k1 := by kernel_rfl
theorem zz62_in2 (N : Nat) (a0 : (List (Int × (Int × Unit)))) (k1 : Int) (i5 : Int) : zz62_R2 N N (zz62_K2 N) a0 k1 i5 = zz62_F2 N a0 k1 i5 :=
  have h : zz62_X2 (zz62_k2 N) = (zz62_a2) := (funext fun a0 => (funext fun k1 => zz62_after2 N a0 k1))
  ((iter_ex (fun st => by kernel_rfl) (fun st => by kernel_rfl)).trans (zz62_iter2 N (zz62_k2 N) (fun j st => (zz62_K2 N) (.exit j) st) N a0 k1 i5)).trans (congrArg (fun k => zz62_l2 N k N a0 k1 i5) h)
theorem run0_zz62 (N : Nat) (x : (S_zz62).a.den) : runF (A_zz62) N Try.f30 S_zz62 x = (zz62_s (zz62_R2 N N (zz62_K2 N)) x.1 x.2.1) := by kernel_rfl
theorem run_zz62 (N : Nat) (x : (S_zz62).a.den) : runF (A_zz62) N Try.f30 S_zz62 x = zz62 N x.1 x.2.1 := by
  refine (run0_zz62 N x).trans ?_
  rw [(funext fun a0 => (funext fun k1 => (funext fun i5 => zz62_in2 N a0 k1 i5)))]
  rfl
theorem fn_zz62 : FnOk Try.prog 30 := ⟨_, Try.func30, by kernel_rfl, by kernel_rfl⟩
theorem good_zz62 : Gx.Good Try.prog 30 S_zz62 := good_of_run Try.func30 (of_decide_eq_true (by kernel_rfl)) fun x r h => ⟨A_zz62, big, mkCfg_ok tabOk, mkCfg_sigs (show SigsOk Try.prog [] from trivial), (run_zz62 big x).trans h⟩

/-! zz63 -/
def zz63_b5 (rec : (List (Int × (Int × Unit))) → Int → Int → Int → Option (Int × Unit)) (k : (List (Int × (Int × Unit))) → Int → Int → Option (Int × Unit)) (a0 : (List (Int × (Int × Unit)))) (k1 : Int) (i5 : Int) (j6 : Int) : Option (Int × Unit) :=
  cond (decide (j6 < (2 : Int)))
  ((atI a0 i5).bind fun xq1 =>
  cond (decide (j6 = (0 : Int)))
  (cond (decide (xq1.1 ≠ k1))
  (some ((-1 : Int), (())))
  (rec a0 (IntKind.i64.wrap (k1 + (1 : Int))) i5 (IntKind.i64.wrap (j6 + (1 : Int)))))
  (cond (decide (j6 = (1 : Int)))
  (cond (decide (xq1.2.1 ≠ k1))
  (some ((-1 : Int), (())))
  (rec a0 (IntKind.i64.wrap (k1 + (1 : Int))) i5 (IntKind.i64.wrap (j6 + (1 : Int)))))
  (none)))
  (k a0 k1 i5)
def zz63_a5 (rec : (List (Int × (Int × Unit))) → Int → Int → Option (Int × Unit)) (a0 : (List (Int × (Int × Unit)))) (k1 : Int) (i5 : Int) : Option (Int × Unit) :=
  rec a0 k1 (IntKind.i64.wrap (i5 + (1 : Int)))
def zz63_b2 (L5 : (List (Int × (Int × Unit))) → Int → Int → Int → Option (Int × Unit)) (k : Int → Option (Int × Unit)) (a0 : (List (Int × (Int × Unit)))) (k1 : Int) (i5 : Int) : Option (Int × Unit) :=
  cond (decide (i5 < (a0.length : Int)))
  (L5 a0 k1 i5 (0 : Int))
  (k k1)
def zz63_a2 (k1 : Int) : Option (Int × Unit) :=
  some (k1, (()))
def zz63_s (L2 : (List (Int × (Int × Unit))) → Int → Int → Option (Int × Unit)) (a_0 : (List (Int × (Int × Unit)))) (k_1 : Int) : Option (Int × Unit) :=
  L2 a_0 k_1 (0 : Int)
def zz63_l5 (N : Nat) (k : (List (Int × (Int × Unit))) → Int → Int → Option (Int × Unit)) : Nat → (List (Int × (Int × Unit))) → Int → Int → Int → Option (Int × Unit)
  | 0, _, _, _, _ => none
  | m + 1, a0, k1, i5, j6 => zz63_b5 (zz63_l5 N k m) k a0 k1 i5 j6
def zz63_F5 (N : Nat) (rec : (List (Int × (Int × Unit))) → Int → Int → Option (Int × Unit)) (k : Int → Option (Int × Unit)) (a0 : (List (Int × (Int × Unit)))) (k1 : Int) (i5 : Int) (j6 : Int) : Option (Int × Unit) := zz63_l5 N (zz63_a5 rec) N a0 k1 i5 j6
def zz63_l2 (N : Nat) (k : Int → Option (Int × Unit)) : Nat → (List (Int × (Int × Unit))) → Int → Int → Option (Int × Unit)
  | 0, _, _, _ => none
  | m + 1, a0, k1, i5 => zz63_b2 (zz63_F5 N (zz63_l2 N k m) k) k a0 k1 i5
def zz63_F2 (N : Nat) (a0 : (List (Int × (Int × Unit)))) (k1 : Int) (i5 : Int) : Option (Int × Unit) := zz63_l2 N (zz63_a2) N a0 k1 i5
def zz63 (N : Nat) (a_0 : (List (Int × (Int × Unit)))) (k_1 : Int) : Option (Int × Unit) := zz63_s (zz63_F2 N) a_0 k_1
def S_zz63 : Sig := { a := (.pair (.sl (.pair I (.pair I .unit))) (.pair I .unit)), md := [0, 0], mf := [], m := .unit, r := I, rf := .i, f := fun x => zz63 big x.1 x.2.1 }
def A_zz63 : Cfg := mkCfg tab [] [(4, [.as (.sl (.pair I (.pair I .unit))) .i, .as I .i, .drop, .drop, .drop, .as I .i]), (10, [.as (.sl (.pair I (.pair I .unit))) .i, .as I .i, .drop, .drop, .drop, .as I .i, .as I .i]), (21, [.drop, .as I .i]), (7, [.as (.sl (.pair I (.pair I .unit))) .i, .as I .i, .drop, .drop, .drop, .as I .i])]
noncomputable def zz63_R2 (N n : Nat) (K : Ex → St → Option (Int × Unit)) (a0 : (List (Int × (Int × Unit)))) (k1 : Int) (i5 : Int) : Option (Int × Unit) := iter ((A_zz63).shape 4) (run (A_zz63) N (codeAt Try.f31 [1, 0, 1, 0, 0])) n ([.val (.sl (.pair I (.pair I .unit))) .i a0, .val I .i k1, .u, .u, .u, .val I .i i5] ++ List.replicate 22 .u) K
noncomputable def zz63_R5 (N n : Nat) (K : Ex → St → Option (Int × Unit)) (a0 : (List (Int × (Int × Unit)))) (k1 : Int) (i5 : Int) (j6 : Int) : Option (Int × Unit) := iter ((A_zz63).shape 10) (run (A_zz63) N (codeAt Try.f31 [1, 0, 1, 0, 0, 1, 0, 0, 1, 0, 0])) n ([.val (.sl (.pair I (.pair I .unit))) .i a0, .val I .i k1, .u, .u, .u, .val I .i i5, .val I .i j6] ++ List.replicate 21 .u) K
noncomputable abbrev zz63_z : Ex → St → Option (Int × Unit) := finish (A_zz63) S_zz63 Try.f31.results.toList
noncomputable abbrev zz63_X2 (kX : St → Option (Int × Unit)) : Int → Option (Int × Unit) := fun (k1 : Int) => kX ([.u, .val I .i k1] ++ List.replicate 26 .u)
noncomputable abbrev zz63_E2 (kX : St → Option (Int × Unit)) (kO : Nat → St → Option (Int × Unit)) : Ex → St → Option (Int × Unit) := exK zz63_z 0 ((A_zz63).shape 21) kX kO
noncomputable abbrev zz63_X5 (kX : St → Option (Int × Unit)) : (List (Int × (Int × Unit))) → Int → Int → Option (Int × Unit) := fun (a0 : (List (Int × (Int × Unit)))) (k1 : Int) (i5 : Int) => kX ([.val (.sl (.pair I (.pair I .unit))) .i a0, .val I .i k1, .u, .u, .u, .val I .i i5] ++ List.replicate 22 .u)
noncomputable abbrev zz63_E5 (kX : St → Option (Int × Unit)) (kO : Nat → St → Option (Int × Unit)) : Ex → St → Option (Int × Unit) := exK zz63_z 2 ((A_zz63).shape 7) kX kO
theorem zz63_step5 (N : Nat) (m : Nat) (kX : St → Option (Int × Unit)) (kO : Nat → St → Option (Int × Unit)) (a0 : (List (Int × (Int × Unit)))) (k1 : Int) (i5 : Int) (j6 : Int) : zz63_R5 N (m + 1) (zz63_E5 kX kO) a0 k1 i5 j6 = zz63_b5 (zz63_R5 N m (zz63_E5 kX kO)) (zz63_X5 kX) a0 k1 i5 j6 := by kernel_rfl
theorem zz63_iter5 (N : Nat) (kX : St → Option (Int × Unit)) (kO : Nat → St → Option (Int × Unit)) : ∀ (n : Nat) (a0 : (List (Int × (Int × Unit)))) (k1 : Int) (i5 : Int) (j6 : Int), zz63_R5 N n (zz63_E5 kX kO) a0 k1 i5 j6 = zz63_l5 N (zz63_X5 kX) n a0 k1 i5 j6
  | 0, _, _, _, _ => rfl
  | m + 1, a0, k1, i5, j6 => by
    have hrec : zz63_R5 N m (zz63_E5 kX kO) = (zz63_l5 N (zz63_X5 kX) m) := (funext fun a0 => (funext fun k1 => (funext fun i5 => (funext fun j6 => zz63_iter5 N kX kO m a0 k1 i5 j6))))
    refine (zz63_step5 N m kX kO a0 k1 i5 j6).trans ?_
    rw [hrec]
    rfl
noncomputable abbrev zz63_K5 (N : Nat) (m : Nat) (kX : St → Option (Int × Unit)) (kO : Nat → St → Option (Int × Unit)) : Ex → St → Option (Int × Unit) := (blockK 2 (blockK 1 (seqK ((A_zz63).shape 7) (run (A_zz63) N (codeAt Try.f31 [1, 0, 1, 0, 0, 1, 1])) (iterK ((A_zz63).shape 4) (run (A_zz63) N (codeAt Try.f31 [1, 0, 1, 0, 0])) m (zz63_E2 kX kO)))))
noncomputable abbrev zz63_k5 (N : Nat) (m : Nat) (kX : St → Option (Int × Unit)) (kO : Nat → St → Option (Int × Unit)) : St → Option (Int × Unit) := fun st' => run (A_zz63) N (codeAt Try.f31 [1, 0, 1, 0, 0, 1, 1]) st' (iterK ((A_zz63).shape 4) (run (A_zz63) N (codeAt Try.f31 [1, 0, 1, 0, 0])) m (zz63_E2 kX kO))
theorem zz63_after5 (N : Nat) (m : Nat) (kX : St → Option (Int × Unit)) (kO : Nat → St → Option (Int × Unit)) (a0 : (List (Int × (Int × Unit)))) (k1 : Int) (i5 : Int) : zz63_X5 (zz63_k5 N m kX kO) a0 k1 i5 = zz63_a5 (zz63_R2 N m (zz63_E2 kX kO)) a0 k1 i5 := by kernel_rfl
theorem zz63_in5 (N : Nat) (m : Nat) (kX : St → Option (Int × Unit)) (kO : Nat → St → Option (Int × Unit)) (recF : (List (Int × (Int × Unit))) → Int → Int → Option (Int × Unit)) (hrec : zz63_R2 N m (zz63_E2 kX kO) = recF) (a0 : (List (Int × (Int × Unit)))) (k1 : Int) (i5 : Int) (j6 : Int) : zz63_R5 N N (zz63_K5 N m kX kO) a0 k1 i5 j6 = zz63_F5 N recF (zz63_X2 kX) a0 k1 i5 j6 :=
  have h : zz63_X5 (zz63_k5 N m kX kO) = (zz63_a5 recF) := (funext fun a0 => (funext fun k1 => (funext fun i5 => (zz63_after5 N m kX kO a0 k1 i5).trans (by rw [hrec]))))
  ((iter_ex (fun st => by kernel_rfl) (fun st => by kernel_rfl)).trans (zz63_iter5 N (zz63_k5 N m kX kO) (fun j st => (zz63_K5 N m kX kO) (.exit j) st) N a0 k1 i5 j6)).trans (congrArg (fun k => zz63_l5 N k N a0 k1 i5 j6) h)
theorem zz63_step2 (N : Nat) (m : Nat) (kX : St → Option (Int × Unit)) (kO : Nat → St → Option (Int × Unit)) (a0 : (List (Int × (Int × Unit)))) (k1 : Int) (i5 : Int) : zz63_R2 N (m + 1) (zz63_E2 kX kO) a0 k1 i5 = zz63_b2 (zz63_R5 N N (zz63_K5 N m kX kO)) (zz63_X2 kX) a0 k1 i5 := by kernel_rfl
theorem zz63_iter2 (N : Nat) (kX : St → Option (Int × Unit)) (kO : Nat → St → Option (Int × Unit)) : ∀ (n : Nat) (a0 : (List (Int × (Int × Unit)))) (k1 : Int) (i5 : Int), zz63_R2 N n (zz63_E2 kX kO) a0 k1 i5 = zz63_l2 N (zz63_X2 kX) n a0 k1 i5
  | 0, _, _, _ => rfl
  | m + 1, a0, k1, i5 => by
    have hrec : zz63_R2 N m (zz63_E2 kX kO) = (zz63_l2 N (zz63_X2 kX) m) := (funext fun a0 => (funext fun k1 => (funext fun i5 => zz63_iter2 N kX kO m a0 k1 i5)))
    refine (zz63_step2 N m kX kO a0 k1 i5).trans ?_
    rw [(funext fun a0 => (funext fun k1 => (funext fun i5 => (funext fun j6 => zz63_in5 N m kX kO (zz63_l2 N (zz63_X2 kX) m) hrec a0 k1 i5 j6))))]
    rfl
noncomputable abbrev zz63_K2 (N : Nat) : Ex → St → Option (Int × Unit) := (blockK 0 (seqK ((A_zz63).shape 21) (run (A_zz63) N (codeAt Try.f31 [1, 1])) zz63_z))
noncomputable abbrev zz63_k2 (N : Nat) : St → Option (Int × Unit) := fun st' => run (A_zz63) N (codeAt Try.f31 [1, 1]) st' zz63_z
theorem zz63_after2 (N : Nat) (k1 : Int) : zz63_X2 (zz63_k2 N) k1 = zz63_a2 k1 := by kernel_rfl
theorem zz63_in2 (N : Nat) (a0 : (List (Int × (Int × Unit)))) (k1 : Int) (i5 : Int) : zz63_R2 N N (zz63_K2 N) a0 k1 i5 = zz63_F2 N a0 k1 i5 :=
  have h : zz63_X2 (zz63_k2 N) = (zz63_a2) := (funext fun k1 => zz63_after2 N k1)
  ((iter_ex (fun st => by kernel_rfl) (fun st => by kernel_rfl)).trans (zz63_iter2 N (zz63_k2 N) (fun j st => (zz63_K2 N) (.exit j) st) N a0 k1 i5)).trans (congrArg (fun k => zz63_l2 N k N a0 k1 i5) h)
theorem run0_zz63 (N : Nat) (x : (S_zz63).a.den) : runF (A_zz63) N Try.f31 S_zz63 x = (zz63_s (zz63_R2 N N (zz63_K2 N)) x.1 x.2.1) := by kernel_rfl
theorem run_zz63 (N : Nat) (x : (S_zz63).a.den) : runF (A_zz63) N Try.f31 S_zz63 x = zz63 N x.1 x.2.1 := by
  refine (run0_zz63 N x).trans ?_
  rw [(funext fun a0 => (funext fun k1 => (funext fun i5 => zz63_in2 N a0 k1 i5)))]
  rfl
theorem fn_zz63 : FnOk Try.prog 31 := ⟨_, Try.func31, by kernel_rfl, by kernel_rfl⟩
theorem good_zz63 : Gx.Good Try.prog 31 S_zz63 := good_of_run Try.func31 (of_decide_eq_true (by kernel_rfl)) fun x r h => ⟨A_zz63, big, mkCfg_ok tabOk, mkCfg_sigs (show SigsOk Try.prog [] from trivial), (run_zz63 big x).trans h⟩

/-! laws_FnExactCollapsedEdges -/
def laws_FnExactCollapsedEdges_s (aP_0 : Y2) (aC_1 : Y4) : Option (Bool × Unit) :=
  cond (decide ((1048576 : Int) < (aC_1.length : Int)))
  (some (true, (())))
  ((zz2 aP_0 (1048576 : Int)).bind fun rq1 =>
  cond (decide (rq1.1 < (0 : Int)))
  (some (true, (())))
  ((zz5 aP_0).bind fun rq2 =>
  (zz3 big aC_1).bind fun rq3 =>
  (zz30 big rq2.1 rq3.1).bind fun rq4 =>
  (zz5 aP_0).bind fun rq5 =>
  (zz3 big aC_1).bind fun rq6 =>
  (zz53 big rq5.1 rq6.1).bind fun rq7 =>
  (zz55 big rq7.1.1 rq4.1.1).bind fun rq8 =>
  cond (!rq8.1)
  (some (false, (())))
  (cond (((((), rq7.1.2).2).1) != ((((), rq4.1.2).2).1))
  (some (false, (())))
  ((zz5 aP_0).bind fun rq9 =>
  (zz58 rq5.1 rq9.1).bind fun rq10 =>
  cond (!rq10.1)
  (some (false, (())))
  ((zz3 big aC_1).bind fun rq11 =>
  (zz56 big rq6.1 rq11.1).bind fun rq12 =>
  cond (!rq12.1)
  (some (false, (())))
  ((zz61 rq5.1 (1 : Int)).bind fun rq13 =>
  (zz59 big rq6.1 rq13.1).bind fun rq14 =>
  cond (decide (rq14.1 < (0 : Int)))
  (some (false, (())))
  ((zz55 big rq7.1.1 rq4.1.1).bind fun rq15 =>
  cond (!rq15.1)
  (some (false, (())))
  (cond (((((), rq7.1.2).2).1) != ((((), rq4.1.2).2).1))
  (some (false, (())))
  ((zz62 big rq7.1.1 (1 : Int)).bind fun rq16 =>
  (zz63 big rq16.2.1 (1 : Int)).bind fun rq17 =>
  cond (decide (rq17.1 < (0 : Int)))
  (some (false, (())))
  (cond (decide (rq17.1 ≠ rq16.1))
  (some (false, (())))
  ((zz5 aP_0).bind fun rq18 =>
  (zz3 big aC_1).bind fun rq19 =>
  (zz53 big rq18.1 rq19.1).bind fun rq20 =>
  (zz55 big rq20.1.1 rq4.1.1).bind fun rq21 =>
  cond (!rq21.1)
  (some (false, (())))
  (cond (((((), rq20.1.2).2).1) != ((((), rq4.1.2).2).1))
  (some (false, (())))
  ((zz63 big rq16.2.1 (1 : Int)).bind fun rq22 =>
  cond (decide (rq22.1 < (0 : Int)))
  (some (false, (())))
  (cond (decide (rq22.1 ≠ rq16.1))
  (some (false, (())))
  (some (true, (())))))))))))))))))
def laws_FnExactCollapsedEdges (aP_0 : Y2) (aC_1 : Y4) : Option (Bool × Unit) := laws_FnExactCollapsedEdges_s aP_0 aC_1
def S_laws_FnExactCollapsedEdges : Sig := { a := (.pair (.pair (.sl (.sl I)) .unit) (.pair (.sl I) .unit)), md := [0, 0], mf := [], m := .unit, r := .bool, rf := .i, f := fun x => laws_FnExactCollapsedEdges x.1 x.2.1 }
def A_laws_FnExactCollapsedEdges : Cfg := mkCfg tab [(15, S_zz2), (17, S_zz5), (25, S_zz3), (24, S_zz30), (26, S_zz53), (27, S_zz55), (20, S_zz58), (28, S_zz56), (21, S_zz61), (29, S_zz59), (30, S_zz62), (31, S_zz63)] []
theorem run_laws_FnExactCollapsedEdges (N : Nat) (x : (S_laws_FnExactCollapsedEdges).a.den) : runF (A_laws_FnExactCollapsedEdges) N Try.f4 S_laws_FnExactCollapsedEdges x = laws_FnExactCollapsedEdges x.1 x.2.1 := by kernel_rfl
theorem fn_laws_FnExactCollapsedEdges : FnOk Try.prog 4 := ⟨_, Try.func4, by kernel_rfl, by kernel_rfl⟩
theorem good_laws_FnExactCollapsedEdges : Gx.Good Try.prog 4 S_laws_FnExactCollapsedEdges := good_of_run Try.func4 (of_decide_eq_true (by kernel_rfl)) fun x r h => ⟨A_laws_FnExactCollapsedEdges, big, mkCfg_ok tabOk, mkCfg_sigs (show SigsOk Try.prog [(15, S_zz2), (17, S_zz5), (25, S_zz3), (24, S_zz30), (26, S_zz53), (27, S_zz55), (20, S_zz58), (28, S_zz56), (21, S_zz61), (29, S_zz59), (30, S_zz62), (31, S_zz63)] from ⟨⟨fn_zz2, good_zz2⟩, ⟨fn_zz5, good_zz5⟩, ⟨fn_zz3, good_zz3⟩, ⟨fn_zz30, good_zz30⟩, ⟨fn_zz53, good_zz53⟩, ⟨fn_zz55, good_zz55⟩, ⟨fn_zz58, good_zz58⟩, ⟨fn_zz56, good_zz56⟩, ⟨fn_zz61, good_zz61⟩, ⟨fn_zz59, good_zz59⟩, ⟨fn_zz62, good_zz62⟩, ⟨fn_zz63, good_zz63⟩, trivial⟩), (run_laws_FnExactCollapsedEdges big x).trans h⟩

/-! zz64 -/
def zz64_b7 (rec : Y2 → Y4 → Int → Int → Int → Option (Y4 × Unit)) (k : Y2 → Y4 → Int → Int → Option (Y4 × Unit)) (p1 : Y2) (out3 : Y4) (y4 : Int) (n5 : Int) (x6 : Int) : Option (Y4 × Unit) :=
  cond (decide (x6 < (p1.1.length : Int)))
  ((zz28 big p1 x6 y4).bind fun rq1 =>
  cond rq1.1
  (rec p1 out3 y4 (IntKind.i64.wrap (n5 + (1 : Int))) (IntKind.i64.wrap (x6 + (1 : Int))))
  (rec p1 out3 y4 n5 (IntKind.i64.wrap (x6 + (1 : Int)))))
  (k p1 out3 y4 n5)
def zz64_a7 (rec : Y2 → Y4 → Int → Option (Y4 × Unit)) (p1 : Y2) (out3 : Y4) (y4 : Int) (n5 : Int) : Option (Y4 × Unit) :=
  cond (decide (n5 = (1 : Int)))
  ((appI out3 [y4]).bind fun xq2 =>
  rec p1 xq2 (IntKind.i64.wrap (y4 + (1 : Int))))
  (rec p1 out3 (IntKind.i64.wrap (y4 + (1 : Int))))
def zz64_b3 (L7 : Y2 → Y4 → Int → Int → Int → Option (Y4 × Unit)) (k : Y4 → Option (Y4 × Unit)) (p1 : Y2) (out3 : Y4) (y4 : Int) : Option (Y4 × Unit) :=
  cond (decide (y4 < (p1.1.length : Int)))
  (L7 p1 out3 y4 (0 : Int) (0 : Int))
  (k out3)
def zz64_a3 (out3 : Y4) : Option (Y4 × Unit) :=
  some (out3, (()))
def zz64_s (L3 : Y2 → Y4 → Int → Option (Y4 × Unit)) (p_0 : Y2) : Option (Y4 × Unit) :=
  L3 p_0 [] (0 : Int)
def zz64_l7 (N : Nat) (k : Y2 → Y4 → Int → Int → Option (Y4 × Unit)) : Nat → Y2 → Y4 → Int → Int → Int → Option (Y4 × Unit)
  | 0, _, _, _, _, _ => none
  | m + 1, p1, out3, y4, n5, x6 => zz64_b7 (zz64_l7 N k m) k p1 out3 y4 n5 x6
def zz64_F7 (N : Nat) (rec : Y2 → Y4 → Int → Option (Y4 × Unit)) (k : Y4 → Option (Y4 × Unit)) (p1 : Y2) (out3 : Y4) (y4 : Int) (n5 : Int) (x6 : Int) : Option (Y4 × Unit) := zz64_l7 N (zz64_a7 rec) N p1 out3 y4 n5 x6
def zz64_l3 (N : Nat) (k : Y4 → Option (Y4 × Unit)) : Nat → Y2 → Y4 → Int → Option (Y4 × Unit)
  | 0, _, _, _ => none
  | m + 1, p1, out3, y4 => zz64_b3 (zz64_F7 N (zz64_l3 N k m) k) k p1 out3 y4
def zz64_F3 (N : Nat) (p1 : Y2) (out3 : Y4) (y4 : Int) : Option (Y4 × Unit) := zz64_l3 N (zz64_a3) N p1 out3 y4
def zz64 (N : Nat) (p_0 : Y2) : Option (Y4 × Unit) := zz64_s (zz64_F3 N) p_0
def S_zz64 : Sig := { a := (.pair (.pair (.sl (.sl I)) .unit) .unit), md := [0], mf := [], m := .unit, r := (.sl I), rf := (.o .i), f := fun x => zz64 big x.1 }
def A_zz64 : Cfg := mkCfg tab [(140, S_zz28)] [(6, [.drop, .as (.ptr (.pair (.sl (.sl I)) .unit)) (.o .i), .drop, .as (.sl I) (.o .i), .as I .i]), (14, [.drop, .as (.ptr (.pair (.sl (.sl I)) .unit)) (.o .i), .drop, .as (.sl I) (.o .i), .as I .i, .as I .i, .as I .i]), (27, [.drop, .drop, .drop, .as (.sl I) (.o .i)]), (23, [.drop, .as (.ptr (.pair (.sl (.sl I)) .unit)) (.o .i), .drop, .as (.sl I) (.o .i), .as I .i, .as I .i])]
noncomputable def zz64_R3 (N n : Nat) (K : Ex → St → Option (Y4 × Unit)) (p1 : Y2) (out3 : Y4) (y4 : Int) : Option (Y4 × Unit) := iter ((A_zz64).shape 6) (run (A_zz64) N (codeAt Try.f113 [1, 1, 0, 1, 0, 0])) n ([.u, .val (.ptr (.pair (.sl (.sl I)) .unit)) (.o .i) p1, .u, .val (.sl I) (.o .i) out3, .val I .i y4] ++ List.replicate 30 .u) K
noncomputable def zz64_R7 (N n : Nat) (K : Ex → St → Option (Y4 × Unit)) (p1 : Y2) (out3 : Y4) (y4 : Int) (n5 : Int) (x6 : Int) : Option (Y4 × Unit) := iter ((A_zz64).shape 14) (run (A_zz64) N (codeAt Try.f113 [1, 1, 0, 1, 0, 0, 1, 0, 0, 1, 0, 1, 0, 0])) n ([.u, .val (.ptr (.pair (.sl (.sl I)) .unit)) (.o .i) p1, .u, .val (.sl I) (.o .i) out3, .val I .i y4, .val I .i n5, .val I .i x6] ++ List.replicate 28 .u) K
noncomputable abbrev zz64_z : Ex → St → Option (Y4 × Unit) := finish (A_zz64) S_zz64 Try.f113.results.toList
noncomputable abbrev zz64_X3 (kX : St → Option (Y4 × Unit)) : Y4 → Option (Y4 × Unit) := fun (out3 : Y4) => kX ([.u, .u, .u, .val (.sl I) (.o .i) out3] ++ List.replicate 31 .u)
noncomputable abbrev zz64_E3 (kX : St → Option (Y4 × Unit)) (kO : Nat → St → Option (Y4 × Unit)) : Ex → St → Option (Y4 × Unit) := exK zz64_z 0 ((A_zz64).shape 27) kX kO
noncomputable abbrev zz64_X7 (kX : St → Option (Y4 × Unit)) : Y2 → Y4 → Int → Int → Option (Y4 × Unit) := fun (p1 : Y2) (out3 : Y4) (y4 : Int) (n5 : Int) => kX ([.u, .val (.ptr (.pair (.sl (.sl I)) .unit)) (.o .i) p1, .u, .val (.sl I) (.o .i) out3, .val I .i y4, .val I .i n5] ++ List.replicate 29 .u)
noncomputable abbrev zz64_E7 (kX : St → Option (Y4 × Unit)) (kO : Nat → St → Option (Y4 × Unit)) : Ex → St → Option (Y4 × Unit) := exK zz64_z 2 ((A_zz64).shape 23) kX kO
theorem zz64_step7 (N : Nat) (m : Nat) (kX : St → Option (Y4 × Unit)) (kO : Nat → St → Option (Y4 × Unit)) (p1 : Y2) (out3 : Y4) (y4 : Int) (n5 : Int) (x6 : Int) : zz64_R7 N (m + 1) (zz64_E7 kX kO) p1 out3 y4 n5 x6 = zz64_b7 (zz64_R7 N m (zz64_E7 kX kO)) (zz64_X7 kX) p1 out3 y4 n5 x6 := by kernel_rfl
theorem zz64_iter7 (N : Nat) (kX : St → Option (Y4 × Unit)) (kO : Nat → St → Option (Y4 × Unit)) : ∀ (n : Nat) (p1 : Y2) (out3 : Y4) (y4 : Int) (n5 : Int) (x6 : Int), zz64_R7 N n (zz64_E7 kX kO) p1 out3 y4 n5 x6 = zz64_l7 N (zz64_X7 kX) n p1 out3 y4 n5 x6
  | 0, _, _, _, _, _ => rfl
  | m + 1, p1, out3, y4, n5, x6 => by
    have hrec : zz64_R7 N m (zz64_E7 kX kO) = (zz64_l7 N (zz64_X7 kX) m) := (funext fun p1 => (funext fun out3 => (funext fun y4 => (funext fun n5 => (funext fun x6 => zz64_iter7 N kX kO m p1 out3 y4 n5 x6)))))
    refine (zz64_step7 N m kX kO p1 out3 y4 n5 x6).trans ?_
    rw [hrec]
    rfl
noncomputable abbrev zz64_K7 (N : Nat) (m : Nat) (kX : St → Option (Y4 × Unit)) (kO : Nat → St → Option (Y4 × Unit)) : Ex → St → Option (Y4 × Unit) := (blockK 2 (seqK ((A_zz64).shape 23) (run (A_zz64) N (codeAt Try.f113 [1, 1, 0, 1, 0, 0, 1, 0, 0, 1, 1])) (blockK 1 (seqK ((A_zz64).shape 9) (run (A_zz64) N (codeAt Try.f113 [1, 1, 0, 1, 0, 0, 1, 1])) (iterK ((A_zz64).shape 6) (run (A_zz64) N (codeAt Try.f113 [1, 1, 0, 1, 0, 0])) m (zz64_E3 kX kO))))))
noncomputable abbrev zz64_k7 (N : Nat) (m : Nat) (kX : St → Option (Y4 × Unit)) (kO : Nat → St → Option (Y4 × Unit)) : St → Option (Y4 × Unit) := fun st' => run (A_zz64) N (codeAt Try.f113 [1, 1, 0, 1, 0, 0, 1, 0, 0, 1, 1]) st' (blockK 1 (seqK ((A_zz64).shape 9) (run (A_zz64) N (codeAt Try.f113 [1, 1, 0, 1, 0, 0, 1, 1])) (iterK ((A_zz64).shape 6) (run (A_zz64) N (codeAt Try.f113 [1, 1, 0, 1, 0, 0])) m (zz64_E3 kX kO))))
theorem zz64_after7 (N : Nat) (m : Nat) (kX : St → Option (Y4 × Unit)) (kO : Nat → St → Option (Y4 × Unit)) (p1 : Y2) (out3 : Y4) (y4 : Int) (n5 : Int) : zz64_X7 (zz64_k7 N m kX kO) p1 out3 y4 n5 = zz64_a7 (zz64_R3 N m (zz64_E3 kX kO)) p1 out3 y4 n5 := by kernel_rfl
theorem zz64_in7 (N : Nat) (m : Nat) (kX : St → Option (Y4 × Unit)) (kO : Nat → St → Option (Y4 × Unit)) (recF : Y2 → Y4 → Int → Option (Y4 × Unit)) (hrec : zz64_R3 N m (zz64_E3 kX kO) = recF) (p1 : Y2) (out3 : Y4) (y4 : Int) (n5 : Int) (x6 : Int) : zz64_R7 N N (zz64_K7 N m kX kO) p1 out3 y4 n5 x6 = zz64_F7 N recF (zz64_X3 kX) p1 out3 y4 n5 x6 :=
  have h : zz64_X7 (zz64_k7 N m kX kO) = (zz64_a7 recF) := (funext fun p1 => (funext fun out3 => (funext fun y4 => (funext fun n5 => (zz64_after7 N m kX kO p1 out3 y4 n5).trans (by rw [hrec])))))
  ((iter_ex (fun st => by kernel_rfl) (fun st => by kernel_rfl)).trans (zz64_iter7 N (zz64_k7 N m kX kO) (fun j st => (zz64_K7 N m kX kO) (.exit j) st) N p1 out3 y4 n5 x6)).trans (congrArg (fun k => zz64_l7 N k N p1 out3 y4 n5 x6) h)
theorem zz64_step3 (N : Nat) (m : Nat) (kX : St → Option (Y4 × Unit)) (kO : Nat → St → Option (Y4 × Unit)) (p1 : Y2) (out3 : Y4) (y4 : Int) : zz64_R3 N (m + 1) (zz64_E3 kX kO) p1 out3 y4 = zz64_b3 (zz64_R7 N N (zz64_K7 N m kX kO)) (zz64_X3 kX) p1 out3 y4 := by kernel_rfl
theorem zz64_iter3 (N : Nat) (kX : St → Option (Y4 × Unit)) (kO : Nat → St → Option (Y4 × Unit)) : ∀ (n : Nat) (p1 : Y2) (out3 : Y4) (y4 : Int), zz64_R3 N n (zz64_E3 kX kO) p1 out3 y4 = zz64_l3 N (zz64_X3 kX) n p1 out3 y4
  | 0, _, _, _ => rfl
  | m + 1, p1, out3, y4 => by
    have hrec : zz64_R3 N m (zz64_E3 kX kO) = (zz64_l3 N (zz64_X3 kX) m) := (funext fun p1 => (funext fun out3 => (funext fun y4 => zz64_iter3 N kX kO m p1 out3 y4)))
    refine (zz64_step3 N m kX kO p1 out3 y4).trans ?_
    rw [(funext fun p1 => (funext fun out3 => (funext fun y4 => (funext fun n5 => (funext fun x6 => zz64_in7 N m kX kO (zz64_l3 N (zz64_X3 kX) m) hrec p1 out3 y4 n5 x6)))))]
    rfl
noncomputable abbrev zz64_K3 (N : Nat) : Ex → St → Option (Y4 × Unit) := (blockK 0 (seqK ((A_zz64).shape 27) (run (A_zz64) N (codeAt Try.f113 [1, 1, 1])) zz64_z))
noncomputable abbrev zz64_k3 (N : Nat) : St → Option (Y4 × Unit) := fun st' => run (A_zz64) N (codeAt Try.f113 [1, 1, 1]) st' zz64_z
theorem zz64_after3 (N : Nat) (out3 : Y4) : zz64_X3 (zz64_k3 N) out3 = zz64_a3 out3 := by kernel_rfl
theorem zz64_in3 (N : Nat) (p1 : Y2) (out3 : Y4) (y4 : Int) : zz64_R3 N N (zz64_K3 N) p1 out3 y4 = zz64_F3 N p1 out3 y4 :=
  have h : zz64_X3 (zz64_k3 N) = (zz64_a3) := (funext fun out3 => zz64_after3 N out3)
  ((iter_ex (fun st => by kernel_rfl) (fun st => by kernel_rfl)).trans (zz64_iter3 N (zz64_k3 N) (fun j st => (zz64_K3 N) (.exit j) st) N p1 out3 y4)).trans (congrArg (fun k => zz64_l3 N k N p1 out3 y4) h)
theorem run0_zz64 (N : Nat) (x : (S_zz64).a.den) : runF (A_zz64) N Try.f113 S_zz64 x = (zz64_s (zz64_R3 N N (zz64_K3 N)) x.1) := by kernel_rfl
theorem run_zz64 (N : Nat) (x : (S_zz64).a.den) : runF (A_zz64) N Try.f113 S_zz64 x = zz64 N x.1 := by
  refine (run0_zz64 N x).trans ?_
  rw [(funext fun p1 => (funext fun out3 => (funext fun y4 => zz64_in3 N p1 out3 y4)))]
  rfl
theorem fn_zz64 : FnOk Try.prog 113 := ⟨_, Try.func113, by kernel_rfl, by kernel_rfl⟩
theorem good_zz64 : Gx.Good Try.prog 113 S_zz64 := good_of_run Try.func113 (of_decide_eq_true (by kernel_rfl)) fun x r h => ⟨A_zz64, big, mkCfg_ok tabOk, mkCfg_sigs (show SigsOk Try.prog [(140, S_zz28)] from ⟨⟨fn_zz28, good_zz28⟩, trivial⟩), (run_zz64 big x).trans h⟩

/-! zz65 -/
def zz65_b2 (rec : Int → Y2 → Int → Option (Int × Unit)) (k : Int → Option (Int × Unit)) (j1 : Int) (p2 : Y2) (x5 : Int) : Option (Int × Unit) :=
  (zz28 big p2 x5 j1).bind fun rq1 =>
  cond (!rq1.1)
  (rec j1 p2 (IntKind.i64.wrap (x5 + (1 : Int))))
  (k x5)
def zz65_a2 (x5 : Int) : Option (Int × Unit) :=
  some (x5, (()))
def zz65_s (L2 : Int → Y2 → Int → Option (Int × Unit)) (p_0 : Y2) (j_1 : Int) : Option (Int × Unit) :=
  L2 j_1 p_0 (0 : Int)
def zz65_l2 (N : Nat) (k : Int → Option (Int × Unit)) : Nat → Int → Y2 → Int → Option (Int × Unit)
  | 0, _, _, _ => none
  | m + 1, j1, p2, x5 => zz65_b2 (zz65_l2 N k m) k j1 p2 x5
def zz65_F2 (N : Nat) (j1 : Int) (p2 : Y2) (x5 : Int) : Option (Int × Unit) := zz65_l2 N (zz65_a2) N j1 p2 x5
def zz65 (N : Nat) (p_0 : Y2) (j_1 : Int) : Option (Int × Unit) := zz65_s (zz65_F2 N) p_0 j_1
def S_zz65 : Sig := { a := (.pair (.pair (.sl (.sl I)) .unit) (.pair I .unit)), md := [0, 0], mf := [], m := .unit, r := I, rf := .i, f := fun x => zz65 big x.1 x.2.1 }
def A_zz65 : Cfg := mkCfg tab [(140, S_zz28)] [(4, [.drop, .as I .i, .as (.ptr (.pair (.sl (.sl I)) .unit)) (.o .i), .drop, .drop, .as I .i]), (9, [.drop, .drop, .drop, .drop, .drop, .as I .i])]
noncomputable def zz65_R2 (N n : Nat) (K : Ex → St → Option (Int × Unit)) (j1 : Int) (p2 : Y2) (x5 : Int) : Option (Int × Unit) := iter ((A_zz65).shape 4) (run (A_zz65) N (codeAt Try.f119 [1, 1, 0, 0, 0])) n ([.u, .val I .i j1, .val (.ptr (.pair (.sl (.sl I)) .unit)) (.o .i) p2, .u, .u, .val I .i x5] ++ List.replicate 8 .u) K
noncomputable abbrev zz65_z : Ex → St → Option (Int × Unit) := finish (A_zz65) S_zz65 Try.f119.results.toList
noncomputable abbrev zz65_X2 (kX : St → Option (Int × Unit)) : Int → Option (Int × Unit) := fun (x5 : Int) => kX ([.u, .u, .u, .u, .u, .val I .i x5] ++ List.replicate 8 .u)
noncomputable abbrev zz65_E2 (kX : St → Option (Int × Unit)) (kO : Nat → St → Option (Int × Unit)) : Ex → St → Option (Int × Unit) := exK zz65_z 0 ((A_zz65).shape 9) kX kO
theorem zz65_step2 (N : Nat) (m : Nat) (kX : St → Option (Int × Unit)) (kO : Nat → St → Option (Int × Unit)) (j1 : Int) (p2 : Y2) (x5 : Int) : zz65_R2 N (m + 1) (zz65_E2 kX kO) j1 p2 x5 = zz65_b2 (zz65_R2 N m (zz65_E2 kX kO)) (zz65_X2 kX) j1 p2 x5 := by kernel_rfl
theorem zz65_iter2 (N : Nat) (kX : St → Option (Int × Unit)) (kO : Nat → St → Option (Int × Unit)) : ∀ (n : Nat) (j1 : Int) (p2 : Y2) (x5 : Int), zz65_R2 N n (zz65_E2 kX kO) j1 p2 x5 = zz65_l2 N (zz65_X2 kX) n j1 p2 x5
  | 0, _, _, _ => rfl
  | m + 1, j1, p2, x5 => by
    have hrec : zz65_R2 N m (zz65_E2 kX kO) = (zz65_l2 N (zz65_X2 kX) m) := (funext fun j1 => (funext fun p2 => (funext fun x5 => zz65_iter2 N kX kO m j1 p2 x5)))
    refine (zz65_step2 N m kX kO j1 p2 x5).trans ?_
    rw [hrec]
    rfl
noncomputable abbrev zz65_K2 (N : Nat) : Ex → St → Option (Int × Unit) := (blockK 0 (seqK ((A_zz65).shape 9) (run (A_zz65) N (codeAt Try.f119 [1, 1, 1])) zz65_z))
noncomputable abbrev zz65_k2 (N : Nat) : St → Option (Int × Unit) := fun st' => run (A_zz65) N (codeAt Try.f119 [1, 1, 1]) st' zz65_z
theorem zz65_after2 (N : Nat) (x5 : Int) : zz65_X2 (zz65_k2 N) x5 = zz65_a2 x5 := by kernel_rfl
theorem zz65_in2 (N : Nat) (j1 : Int) (p2 : Y2) (x5 : Int) : zz65_R2 N N (zz65_K2 N) j1 p2 x5 = zz65_F2 N j1 p2 x5 :=
  have h : zz65_X2 (zz65_k2 N) = (zz65_a2) := (funext fun x5 => zz65_after2 N x5)
  ((iter_ex (fun st => by kernel_rfl) (fun st => by kernel_rfl)).trans (zz65_iter2 N (zz65_k2 N) (fun j st => (zz65_K2 N) (.exit j) st) N j1 p2 x5)).trans (congrArg (fun k => zz65_l2 N k N j1 p2 x5) h)
theorem run0_zz65 (N : Nat) (x : (S_zz65).a.den) : runF (A_zz65) N Try.f119 S_zz65 x = (zz65_s (zz65_R2 N N (zz65_K2 N)) x.1 x.2.1) := by kernel_rfl
theorem run_zz65 (N : Nat) (x : (S_zz65).a.den) : runF (A_zz65) N Try.f119 S_zz65 x = zz65 N x.1 x.2.1 := by
  refine (run0_zz65 N x).trans ?_
  rw [(funext fun j1 => (funext fun p2 => (funext fun x5 => zz65_in2 N j1 p2 x5)))]
  rfl
theorem fn_zz65 : FnOk Try.prog 119 := ⟨_, Try.func119, by kernel_rfl, by kernel_rfl⟩
theorem good_zz65 : Gx.Good Try.prog 119 S_zz65 := good_of_run Try.func119 (of_decide_eq_true (by kernel_rfl)) fun x r h => ⟨A_zz65, big, mkCfg_ok tabOk, mkCfg_sigs (show SigsOk Try.prog [(140, S_zz28)] from ⟨⟨fn_zz28, good_zz28⟩, trivial⟩), (run_zz65 big x).trans h⟩

/-! zz66 -/
def zz66_b4 (rec : Y4 → Y2 → Y4 → Y4 → Int → Option (Y4 × Unit)) (k : Y4 → Option (Y4 × Unit)) (c1 : Y4) (p2 : Y2) (out5 : Y4) (all6 : Y4) (i7 : Int) : Option (Y4 × Unit) :=
  cond (decide (i7 < (all6.length : Int)))
  ((atI all6 i7).bind fun _ =>
  (all6[i7.toNat]?).bind fun xq2 =>
  (atI c1 xq2).bind fun xq3 =>
  (atI all6 i7).bind fun _ =>
  (all6[i7.toNat]?).bind fun xq4 =>
  (zz65 big p2 xq4).bind fun rq5 =>
  (atI c1 rq5.1).bind fun xq6 =>
  cond (decide (xq3 = xq6))
  ((atI all6 i7).bind fun _ =>
  (all6[i7.toNat]?).bind fun xq7 =>
  (appI out5 [xq7]).bind fun xq8 =>
  rec c1 p2 xq8 all6 (IntKind.i64.wrap (i7 + (1 : Int))))
  (rec c1 p2 out5 all6 (IntKind.i64.wrap (i7 + (1 : Int)))))
  (k out5)
def zz66_a4 (out5 : Y4) : Option (Y4 × Unit) :=
  some (out5, (()))
def zz66_s (L4 : Y4 → Y2 → Y4 → Y4 → Int → Option (Y4 × Unit)) (p_0 : Y2) (c_1 : Y4) : Option (Y4 × Unit) :=
  (zz64 big p_0).bind fun rq1 =>
  L4 c_1 p_0 [] rq1.1 (0 : Int)
def zz66_l4 (N : Nat) (k : Y4 → Option (Y4 × Unit)) : Nat → Y4 → Y2 → Y4 → Y4 → Int → Option (Y4 × Unit)
  | 0, _, _, _, _, _ => none
  | m + 1, c1, p2, out5, all6, i7 => zz66_b4 (zz66_l4 N k m) k c1 p2 out5 all6 i7
def zz66_F4 (N : Nat) (c1 : Y4) (p2 : Y2) (out5 : Y4) (all6 : Y4) (i7 : Int) : Option (Y4 × Unit) := zz66_l4 N (zz66_a4) N c1 p2 out5 all6 i7
def zz66 (N : Nat) (p_0 : Y2) (c_1 : Y4) : Option (Y4 × Unit) := zz66_s (zz66_F4 N) p_0 c_1
def S_zz66 : Sig := { a := (.pair (.pair (.sl (.sl I)) .unit) (.pair (.sl I) .unit)), md := [0, 0], mf := [], m := .unit, r := (.sl I), rf := (.o .i), f := fun x => zz66 big x.1 x.2.1 }
def A_zz66 : Cfg := mkCfg tab [(113, S_zz64), (119, S_zz65)] [(8, [.drop, .as (.sl I) .i, .as (.ptr (.pair (.sl (.sl I)) .unit)) (.o .i), .drop, .drop, .as (.sl I) (.o .i), .as (.sl I) (.o .i), .as I .i]), (17, [.drop, .drop, .drop, .drop, .drop, .as (.sl I) (.o .i)])]
noncomputable def zz66_R4 (N n : Nat) (K : Ex → St → Option (Y4 × Unit)) (c1 : Y4) (p2 : Y2) (out5 : Y4) (all6 : Y4) (i7 : Int) : Option (Y4 × Unit) := iter ((A_zz66).shape 8) (run (A_zz66) N (codeAt Try.f76 [1, 1, 1, 0, 1, 0, 0])) n ([.u, .val (.sl I) .i c1, .val (.ptr (.pair (.sl (.sl I)) .unit)) (.o .i) p2, .u, .u, .val (.sl I) (.o .i) out5, .val (.sl I) (.o .i) all6, .val I .i i7] ++ List.replicate 34 .u) K
noncomputable abbrev zz66_z : Ex → St → Option (Y4 × Unit) := finish (A_zz66) S_zz66 Try.f76.results.toList
noncomputable abbrev zz66_X4 (kX : St → Option (Y4 × Unit)) : Y4 → Option (Y4 × Unit) := fun (out5 : Y4) => kX ([.u, .u, .u, .u, .u, .val (.sl I) (.o .i) out5] ++ List.replicate 36 .u)
noncomputable abbrev zz66_E4 (kX : St → Option (Y4 × Unit)) (kO : Nat → St → Option (Y4 × Unit)) : Ex → St → Option (Y4 × Unit) := exK zz66_z 0 ((A_zz66).shape 17) kX kO
theorem zz66_step4 (N : Nat) (m : Nat) (kX : St → Option (Y4 × Unit)) (kO : Nat → St → Option (Y4 × Unit)) (c1 : Y4) (p2 : Y2) (out5 : Y4) (all6 : Y4) (i7 : Int) : zz66_R4 N (m + 1) (zz66_E4 kX kO) c1 p2 out5 all6 i7 = zz66_b4 (zz66_R4 N m (zz66_E4 kX kO)) (zz66_X4 kX) c1 p2 out5 all6 i7 := by kernel_rfl
theorem zz66_iter4 (N : Nat) (kX : St → Option (Y4 × Unit)) (kO : Nat → St → Option (Y4 × Unit)) : ∀ (n : Nat) (c1 : Y4) (p2 : Y2) (out5 : Y4) (all6 : Y4) (i7 : Int), zz66_R4 N n (zz66_E4 kX kO) c1 p2 out5 all6 i7 = zz66_l4 N (zz66_X4 kX) n c1 p2 out5 all6 i7
  | 0, _, _, _, _, _ => rfl
  | m + 1, c1, p2, out5, all6, i7 => by
    have hrec : zz66_R4 N m (zz66_E4 kX kO) = (zz66_l4 N (zz66_X4 kX) m) := (funext fun c1 => (funext fun p2 => (funext fun out5 => (funext fun all6 => (funext fun i7 => zz66_iter4 N kX kO m c1 p2 out5 all6 i7)))))
    refine (zz66_step4 N m kX kO c1 p2 out5 all6 i7).trans ?_
    rw [hrec]
    rfl
noncomputable abbrev zz66_K4 (N : Nat) : Ex → St → Option (Y4 × Unit) := (blockK 0 (seqK ((A_zz66).shape 17) (run (A_zz66) N (codeAt Try.f76 [1, 1, 1, 1])) zz66_z))
noncomputable abbrev zz66_k4 (N : Nat) : St → Option (Y4 × Unit) := fun st' => run (A_zz66) N (codeAt Try.f76 [1, 1, 1, 1]) st' zz66_z
theorem zz66_after4 (N : Nat) (out5 : Y4) : zz66_X4 (zz66_k4 N) out5 = zz66_a4 out5 := by kernel_rfl
theorem zz66_in4 (N : Nat) (c1 : Y4) (p2 : Y2) (out5 : Y4) (all6 : Y4) (i7 : Int) : zz66_R4 N N (zz66_K4 N) c1 p2 out5 all6 i7 = zz66_F4 N c1 p2 out5 all6 i7 :=
  have h : zz66_X4 (zz66_k4 N) = (zz66_a4) := (funext fun out5 => zz66_after4 N out5)
  ((iter_ex (fun st => by kernel_rfl) (fun st => by kernel_rfl)).trans (zz66_iter4 N (zz66_k4 N) (fun j st => (zz66_K4 N) (.exit j) st) N c1 p2 out5 all6 i7)).trans (congrArg (fun k => zz66_l4 N k N c1 p2 out5 all6 i7) h)
theorem run0_zz66 (N : Nat) (x : (S_zz66).a.den) : runF (A_zz66) N Try.f76 S_zz66 x = (zz66_s (zz66_R4 N N (zz66_K4 N)) x.1 x.2.1) := by kernel_rfl
theorem run_zz66 (N : Nat) (x : (S_zz66).a.den) : runF (A_zz66) N Try.f76 S_zz66 x = zz66 N x.1 x.2.1 := by
  refine (run0_zz66 N x).trans ?_
  rw [(funext fun c1 => (funext fun p2 => (funext fun out5 => (funext fun all6 => (funext fun i7 => zz66_in4 N c1 p2 out5 all6 i7)))))]
  rfl
theorem fn_zz66 : FnOk Try.prog 76 := ⟨_, Try.func76, by kernel_rfl, by kernel_rfl⟩
theorem good_zz66 : Gx.Good Try.prog 76 S_zz66 := good_of_run Try.func76 (of_decide_eq_true (by kernel_rfl)) fun x r h => ⟨A_zz66, big, mkCfg_ok tabOk, mkCfg_sigs (show SigsOk Try.prog [(113, S_zz64), (119, S_zz65)] from ⟨⟨fn_zz64, good_zz64⟩, ⟨fn_zz65, good_zz65⟩, trivial⟩), (run_zz66 big x).trans h⟩

/-! zz67 -/
def zz67_s (p_0 : Y2) (c_1 : Y4) : Option ((Y4 × (Bool × Unit)) × Unit) :=
  (zz15 p_0).bind fun rq1 =>
  cond (!rq1.1)
  (some (([], false, ()), (())))
  ((zz16 big p_0).bind fun rq2 =>
  (zz26 rq2.1 c_1).bind fun rq3 =>
  cond (!rq3.1)
  (some (([], false, ()), (())))
  ((zz66 big p_0 c_1).bind fun rq4 =>
  some ((rq4.1, true, ()), (()))))
def zz67 (p_0 : Y2) (c_1 : Y4) : Option ((Y4 × (Bool × Unit)) × Unit) := zz67_s p_0 c_1
def S_zz67 : Sig := { a := (.pair (.pair (.sl (.sl I)) .unit) (.pair (.sl I) .unit)), md := [0, 0], mf := [], m := .unit, r := (.tup (.pair (.sl I) (.pair .bool .unit))), rf := (.p (.o .i) .i), f := fun x => zz67 x.1 x.2.1 }
def A_zz67 : Cfg := mkCfg tab [(67, S_zz15), (69, S_zz16), (68, S_zz26), (76, S_zz66)] []
theorem run_zz67 (N : Nat) (x : (S_zz67).a.den) : runF (A_zz67) N Try.f32 S_zz67 x = zz67 x.1 x.2.1 := by kernel_rfl
theorem fn_zz67 : FnOk Try.prog 32 := ⟨_, Try.func32, by kernel_rfl, by kernel_rfl⟩
theorem good_zz67 : Gx.Good Try.prog 32 S_zz67 := good_of_run Try.func32 (of_decide_eq_true (by kernel_rfl)) fun x r h => ⟨A_zz67, big, mkCfg_ok tabOk, mkCfg_sigs (show SigsOk Try.prog [(67, S_zz15), (69, S_zz16), (68, S_zz26), (76, S_zz66)] from ⟨⟨fn_zz15, good_zz15⟩, ⟨fn_zz16, good_zz16⟩, ⟨fn_zz26, good_zz26⟩, ⟨fn_zz66, good_zz66⟩, trivial⟩), (run_zz67 big x).trans h⟩

/-! zz68 -/
def zz68_s (y_0 : Int) (p_1 : Y5) (p_2 : Int) : Option (Bool × Unit) :=
  (zz51 big p_1 y_0 p_2).bind fun rq1 =>
  some (rq1.1, (()))
def zz68 (y_0 : Int) (p_1 : Y5) (p_2 : Int) : Option (Bool × Unit) := zz68_s y_0 p_1 p_2
def S_zz68 : Sig := { a := (.pair I (.pair (.ptr (.sl (.sl .bool))) (.pair (.ptr I) .unit))), md := [0, 0, 0], mf := [], m := .unit, r := .bool, rf := .i, f := fun x => zz68 x.1 x.2.1 x.2.2.1 }
def A_zz68 : Cfg := mkCfg tab [(145, S_zz51)] []
theorem run_zz68 (N : Nat) (x : (S_zz68).a.den) : runF (A_zz68) N Try.f200 S_zz68 x = zz68 x.1 x.2.1 x.2.2.1 := by kernel_rfl
theorem fn_zz68 : FnOk Try.prog 200 := ⟨_, Try.func200, by kernel_rfl, by kernel_rfl⟩
theorem good_zz68 : Gx.Good Try.prog 200 S_zz68 := good_of_run Try.func200 (of_decide_eq_true (by kernel_rfl)) fun x r h => ⟨A_zz68, big, mkCfg_ok tabOk, mkCfg_sigs (show SigsOk Try.prog [(145, S_zz51)] from ⟨⟨fn_zz51, good_zz51⟩, trivial⟩), (run_zz68 big x).trans h⟩

/-! zz69 -/
def zz69_b3 (rec : (Y5 × (Int × Unit)) → Y4 → Int → Int → Option (Y4 × Unit)) (k : Y4 → Option (Y4 × Unit)) (so1 : (Y5 × (Int × Unit))) (list5 : Y4) (t9 : Int) (t10 : Int) : Option (Y4 × Unit) :=
  cond (decide (t10 < t9))
  ((zz68 t10 so1.1 so1.2.1).bind fun rq1 =>
  cond rq1.1
  ((appI list5 [t10]).bind fun xq2 =>
  rec so1 xq2 t9 (IntKind.i64.wrap (t10 + (1 : Int))))
  (rec so1 list5 t9 (IntKind.i64.wrap (t10 + (1 : Int)))))
  (k list5)
def zz69_a3 (list5 : Y4) : Option (Y4 × Unit) :=
  some (list5, (()))
def zz69_s (L3 : (Y5 × (Int × Unit)) → Y4 → Int → Int → Option (Y4 × Unit)) (o_0 : Y5) (so_1 : (Y5 × (Int × Unit))) : Option (Y4 × Unit) :=
  L3 so_1 [] (o_0.length : Int) (0 : Int)
def zz69_l3 (N : Nat) (k : Y4 → Option (Y4 × Unit)) : Nat → (Y5 × (Int × Unit)) → Y4 → Int → Int → Option (Y4 × Unit)
  | 0, _, _, _, _ => none
  | m + 1, so1, list5, t9, t10 => zz69_b3 (zz69_l3 N k m) k so1 list5 t9 t10
def zz69_F3 (N : Nat) (so1 : (Y5 × (Int × Unit))) (list5 : Y4) (t9 : Int) (t10 : Int) : Option (Y4 × Unit) := zz69_l3 N (zz69_a3) N so1 list5 t9 t10
def zz69 (N : Nat) (o_0 : Y5) (so_1 : (Y5 × (Int × Unit))) : Option (Y4 × Unit) := zz69_s (zz69_F3 N) o_0 so_1
def S_zz69 : Sig := { a := (.pair (.sl (.sl .bool)) (.pair (.clo 200 0 (.pair (.ptr (.sl (.sl .bool))) (.pair (.ptr I) .unit))) .unit)), md := [0, 0], mf := [], m := .unit, r := (.sl I), rf := (.o .i), f := fun x => zz69 big x.1 x.2.1 }
def A_zz69 : Cfg := mkCfg tab [(200, S_zz68)] [(6, [.drop, .as (.clo 200 0 (.pair (.ptr (.sl (.sl .bool))) (.pair (.ptr I) .unit))) .i, .drop, .drop, .drop, .as (.sl I) (.o .i), .drop, .drop, .drop, .as I .i, .as I .i]), (17, [.drop, .drop, .drop, .drop, .drop, .as (.sl I) (.o .i)])]
noncomputable def zz69_R3 (N n : Nat) (K : Ex → St → Option (Y4 × Unit)) (so1 : (Y5 × (Int × Unit))) (list5 : Y4) (t9 : Int) (t10 : Int) : Option (Y4 × Unit) := iter ((A_zz69).shape 6) (run (A_zz69) N (codeAt Try.f169 [1, 1, 0, 1, 0, 0])) n ([.u, .val (.clo 200 0 (.pair (.ptr (.sl (.sl .bool))) (.pair (.ptr I) .unit))) .i so1, .u, .u, .u, .val (.sl I) (.o .i) list5, .u, .u, .u, .val I .i t9, .val I .i t10] ++ List.replicate 11 .u) K
noncomputable abbrev zz69_z : Ex → St → Option (Y4 × Unit) := finish (A_zz69) S_zz69 Try.f169.results.toList
noncomputable abbrev zz69_X3 (kX : St → Option (Y4 × Unit)) : Y4 → Option (Y4 × Unit) := fun (list5 : Y4) => kX ([.u, .u, .u, .u, .u, .val (.sl I) (.o .i) list5] ++ List.replicate 16 .u)
noncomputable abbrev zz69_E3 (kX : St → Option (Y4 × Unit)) (kO : Nat → St → Option (Y4 × Unit)) : Ex → St → Option (Y4 × Unit) := exK zz69_z 0 ((A_zz69).shape 17) kX kO
theorem zz69_step3 (N : Nat) (m : Nat) (kX : St → Option (Y4 × Unit)) (kO : Nat → St → Option (Y4 × Unit)) (so1 : (Y5 × (Int × Unit))) (list5 : Y4) (t9 : Int) (t10 : Int) : zz69_R3 N (m + 1) (zz69_E3 kX kO) so1 list5 t9 t10 = zz69_b3 (zz69_R3 N m (zz69_E3 kX kO)) (zz69_X3 kX) so1 list5 t9 t10 := by kernel_rfl
theorem zz69_iter3 (N : Nat) (kX : St → Option (Y4 × Unit)) (kO : Nat → St → Option (Y4 × Unit)) : ∀ (n : Nat) (so1 : (Y5 × (Int × Unit))) (list5 : Y4) (t9 : Int) (t10 : Int), zz69_R3 N n (zz69_E3 kX kO) so1 list5 t9 t10 = zz69_l3 N (zz69_X3 kX) n so1 list5 t9 t10
  | 0, _, _, _, _ => rfl
  | m + 1, so1, list5, t9, t10 => by
    have hrec : zz69_R3 N m (zz69_E3 kX kO) = (zz69_l3 N (zz69_X3 kX) m) := (funext fun so1 => (funext fun list5 => (funext fun t9 => (funext fun t10 => zz69_iter3 N kX kO m so1 list5 t9 t10))))
    refine (zz69_step3 N m kX kO so1 list5 t9 t10).trans ?_
    rw [hrec]
    rfl
noncomputable abbrev zz69_K3 (N : Nat) : Ex → St → Option (Y4 × Unit) := (blockK 0 (seqK ((A_zz69).shape 17) (run (A_zz69) N (codeAt Try.f169 [1, 1, 1])) zz69_z))
noncomputable abbrev zz69_k3 (N : Nat) : St → Option (Y4 × Unit) := fun st' => run (A_zz69) N (codeAt Try.f169 [1, 1, 1]) st' zz69_z
theorem zz69_after3 (N : Nat) (list5 : Y4) : zz69_X3 (zz69_k3 N) list5 = zz69_a3 list5 := by kernel_rfl
theorem zz69_in3 (N : Nat) (so1 : (Y5 × (Int × Unit))) (list5 : Y4) (t9 : Int) (t10 : Int) : zz69_R3 N N (zz69_K3 N) so1 list5 t9 t10 = zz69_F3 N so1 list5 t9 t10 :=
  have h : zz69_X3 (zz69_k3 N) = (zz69_a3) := (funext fun list5 => zz69_after3 N list5)
  ((iter_ex (fun st => by kernel_rfl) (fun st => by kernel_rfl)).trans (zz69_iter3 N (zz69_k3 N) (fun j st => (zz69_K3 N) (.exit j) st) N so1 list5 t9 t10)).trans (congrArg (fun k => zz69_l3 N k N so1 list5 t9 t10) h)
theorem run0_zz69 (N : Nat) (x : (S_zz69).a.den) : runF (A_zz69) N Try.f169 S_zz69 x = (zz69_s (zz69_R3 N N (zz69_K3 N)) x.1 x.2.1) := by kernel_rfl
theorem run_zz69 (N : Nat) (x : (S_zz69).a.den) : runF (A_zz69) N Try.f169 S_zz69 x = zz69 N x.1 x.2.1 := by
  refine (run0_zz69 N x).trans ?_
  rw [(funext fun so1 => (funext fun list5 => (funext fun t9 => (funext fun t10 => zz69_in3 N so1 list5 t9 t10))))]
  rfl
theorem fn_zz69 : FnOk Try.prog 169 := ⟨_, Try.func169, by kernel_rfl, by kernel_rfl⟩
theorem good_zz69 : Gx.Good Try.prog 169 S_zz69 := good_of_run Try.func169 (of_decide_eq_true (by kernel_rfl)) fun x r h => ⟨A_zz69, big, mkCfg_ok tabOk, mkCfg_sigs (show SigsOk Try.prog [(200, S_zz68)] from ⟨⟨fn_zz68, good_zz68⟩, trivial⟩), (run_zz69 big x).trans h⟩

/-! zz70 -/
def zz70_s (o_0 : Y5) (x_1 : Int) : Option (Y4 × Unit) :=
  (zz69 big o_0 (o_0, x_1, ())).bind fun rq1 =>
  some (rq1.1, (()))
def zz70 (o_0 : Y5) (x_1 : Int) : Option (Y4 × Unit) := zz70_s o_0 x_1
def S_zz70 : Sig := { a := (.pair (.sl (.sl .bool)) (.pair I .unit)), md := [0, 0], mf := [], m := .unit, r := (.sl I), rf := (.o .i), f := fun x => zz70 x.1 x.2.1 }
def A_zz70 : Cfg := mkCfg tab [(169, S_zz69)] [(3, [.drop, .drop, .as (.ptr (.sl (.sl .bool))) .i, .as (.ptr I) .i])]
theorem run_zz70 (N : Nat) (x : (S_zz70).a.den) : runF (A_zz70) N Try.f164 S_zz70 x = zz70 x.1 x.2.1 := by kernel_rfl
theorem fn_zz70 : FnOk Try.prog 164 := ⟨_, Try.func164, by kernel_rfl, by kernel_rfl⟩
theorem good_zz70 : Gx.Good Try.prog 164 S_zz70 := good_of_run Try.func164 (of_decide_eq_true (by kernel_rfl)) fun x r h => ⟨A_zz70, big, mkCfg_ok tabOk, mkCfg_sigs (show SigsOk Try.prog [(169, S_zz69)] from ⟨⟨fn_zz69, good_zz69⟩, trivial⟩), (run_zz70 big x).trans h⟩

/-! zz71 -/
def zz71_s (x_0 : Int) (p_1 : Y1) : Option (Bool × Unit) :=
  (p_1).bind fun xq1 =>
  (zz70 xq1.1 x_0).bind fun rq2 =>
  some (decide ((rq2.1.length : Int) = (1 : Int)), (()))
def zz71 (x_0 : Int) (p_1 : Y1) : Option (Bool × Unit) := zz71_s x_0 p_1
def S_zz71 : Sig := { a := (.pair I (.pair (.ptr (.opt (.pair (.sl (.sl .bool)) (.pair (.sl (.sl I)) (.pair (.sl (.sl I)) .unit))))) .unit)), md := [0, 0], mf := [], m := .unit, r := .bool, rf := .i, f := fun x => zz71 x.1 x.2.1 }
def A_zz71 : Cfg := mkCfg tab [(164, S_zz70)] []
theorem run_zz71 (N : Nat) (x : (S_zz71).a.den) : runF (A_zz71) N Try.f170 S_zz71 x = zz71 x.1 x.2.1 := by kernel_rfl
theorem fn_zz71 : FnOk Try.prog 170 := ⟨_, Try.func170, by kernel_rfl, by kernel_rfl⟩
theorem good_zz71 : Gx.Good Try.prog 170 S_zz71 := good_of_run Try.func170 (of_decide_eq_true (by kernel_rfl)) fun x r h => ⟨A_zz71, big, mkCfg_ok tabOk, mkCfg_sigs (show SigsOk Try.prog [(164, S_zz70)] from ⟨⟨fn_zz70, good_zz70⟩, trivial⟩), (run_zz71 big x).trans h⟩

/-! zz72 -/
def zz72_b3 (rec : (Y1 × Unit) → Y4 → Int → Int → Option (Y4 × Unit)) (k : Y4 → Option (Y4 × Unit)) (so1 : (Y1 × Unit)) (list5 : Y4) (t9 : Int) (t10 : Int) : Option (Y4 × Unit) :=
  cond (decide (t10 < t9))
  ((zz71 t10 so1.1).bind fun rq1 =>
  cond rq1.1
  ((appI list5 [t10]).bind fun xq2 =>
  rec so1 xq2 t9 (IntKind.i64.wrap (t10 + (1 : Int))))
  (rec so1 list5 t9 (IntKind.i64.wrap (t10 + (1 : Int)))))
  (k list5)
def zz72_a3 (list5 : Y4) : Option (Y4 × Unit) :=
  some (list5, (()))
def zz72_s (L3 : (Y1 × Unit) → Y4 → Int → Int → Option (Y4 × Unit)) (o_0 : Y5) (so_1 : (Y1 × Unit)) : Option (Y4 × Unit) :=
  L3 so_1 [] (o_0.length : Int) (0 : Int)
def zz72_l3 (N : Nat) (k : Y4 → Option (Y4 × Unit)) : Nat → (Y1 × Unit) → Y4 → Int → Int → Option (Y4 × Unit)
  | 0, _, _, _, _ => none
  | m + 1, so1, list5, t9, t10 => zz72_b3 (zz72_l3 N k m) k so1 list5 t9 t10
def zz72_F3 (N : Nat) (so1 : (Y1 × Unit)) (list5 : Y4) (t9 : Int) (t10 : Int) : Option (Y4 × Unit) := zz72_l3 N (zz72_a3) N so1 list5 t9 t10
def zz72 (N : Nat) (o_0 : Y5) (so_1 : (Y1 × Unit)) : Option (Y4 × Unit) := zz72_s (zz72_F3 N) o_0 so_1
def S_zz72 : Sig := { a := (.pair (.sl (.sl .bool)) (.pair (.clo 170 0 (.pair (.ptr (.opt (.pair (.sl (.sl .bool)) (.pair (.sl (.sl I)) (.pair (.sl (.sl I)) .unit))))) .unit)) .unit)), md := [0, 0], mf := [], m := .unit, r := (.sl I), rf := (.o .i), f := fun x => zz72 big x.1 x.2.1 }
def A_zz72 : Cfg := mkCfg tab [(170, S_zz71)] [(6, [.drop, .as (.clo 170 0 (.pair (.ptr (.opt (.pair (.sl (.sl .bool)) (.pair (.sl (.sl I)) (.pair (.sl (.sl I)) .unit))))) .unit)) .i, .drop, .drop, .drop, .as (.sl I) (.o .i), .drop, .drop, .drop, .as I .i, .as I .i]), (17, [.drop, .drop, .drop, .drop, .drop, .as (.sl I) (.o .i)])]
noncomputable def zz72_R3 (N n : Nat) (K : Ex → St → Option (Y4 × Unit)) (so1 : (Y1 × Unit)) (list5 : Y4) (t9 : Int) (t10 : Int) : Option (Y4 × Unit) := iter ((A_zz72).shape 6) (run (A_zz72) N (codeAt Try.f169 [1, 1, 0, 1, 0, 0])) n ([.u, .val (.clo 170 0 (.pair (.ptr (.opt (.pair (.sl (.sl .bool)) (.pair (.sl (.sl I)) (.pair (.sl (.sl I)) .unit))))) .unit)) .i so1, .u, .u, .u, .val (.sl I) (.o .i) list5, .u, .u, .u, .val I .i t9, .val I .i t10] ++ List.replicate 11 .u) K
noncomputable abbrev zz72_z : Ex → St → Option (Y4 × Unit) := finish (A_zz72) S_zz72 Try.f169.results.toList
noncomputable abbrev zz72_X3 (kX : St → Option (Y4 × Unit)) : Y4 → Option (Y4 × Unit) := fun (list5 : Y4) => kX ([.u, .u, .u, .u, .u, .val (.sl I) (.o .i) list5] ++ List.replicate 16 .u)
noncomputable abbrev zz72_E3 (kX : St → Option (Y4 × Unit)) (kO : Nat → St → Option (Y4 × Unit)) : Ex → St → Option (Y4 × Unit) := exK zz72_z 0 ((A_zz72).shape 17) kX kO
theorem zz72_step3 (N : Nat) (m : Nat) (kX : St → Option (Y4 × Unit)) (kO : Nat → St → Option (Y4 × Unit)) (so1 : (Y1 × Unit)) (list5 : Y4) (t9 : Int) (t10 : Int) : zz72_R3 N (m + 1) (zz72_E3 kX kO) so1 list5 t9 t10 = zz72_b3 (zz72_R3 N m (zz72_E3 kX kO)) (zz72_X3 kX) so1 list5 t9 t10 := by kernel_rfl
theorem zz72_iter3 (N : Nat) (kX : St → Option (Y4 × Unit)) (kO : Nat → St → Option (Y4 × Unit)) : ∀ (n : Nat) (so1 : (Y1 × Unit)) (list5 : Y4) (t9 : Int) (t10 : Int), zz72_R3 N n (zz72_E3 kX kO) so1 list5 t9 t10 = zz72_l3 N (zz72_X3 kX) n so1 list5 t9 t10
  | 0, _, _, _, _ => rfl
  | m + 1, so1, list5, t9, t10 => by
    have hrec : zz72_R3 N m (zz72_E3 kX kO) = (zz72_l3 N (zz72_X3 kX) m) := (funext fun so1 => (funext fun list5 => (funext fun t9 => (funext fun t10 => zz72_iter3 N kX kO m so1 list5 t9 t10))))
    refine (zz72_step3 N m kX kO so1 list5 t9 t10).trans ?_
    rw [hrec]
    rfl
noncomputable abbrev zz72_K3 (N : Nat) : Ex → St → Option (Y4 × Unit) := (blockK 0 (seqK ((A_zz72).shape 17) (run (A_zz72) N (codeAt Try.f169 [1, 1, 1])) zz72_z))
noncomputable abbrev zz72_k3 (N : Nat) : St → Option (Y4 × Unit) := fun st' => run (A_zz72) N (codeAt Try.f169 [1, 1, 1]) st' zz72_z
theorem zz72_after3 (N : Nat) (list5 : Y4) : zz72_X3 (zz72_k3 N) list5 = zz72_a3 list5 := by kernel_rfl
theorem zz72_in3 (N : Nat) (so1 : (Y1 × Unit)) (list5 : Y4) (t9 : Int) (t10 : Int) : zz72_R3 N N (zz72_K3 N) so1 list5 t9 t10 = zz72_F3 N so1 list5 t9 t10 :=
  have h : zz72_X3 (zz72_k3 N) = (zz72_a3) := (funext fun list5 => zz72_after3 N list5)
  ((iter_ex (fun st => by kernel_rfl) (fun st => by kernel_rfl)).trans (zz72_iter3 N (zz72_k3 N) (fun j st => (zz72_K3 N) (.exit j) st) N so1 list5 t9 t10)).trans (congrArg (fun k => zz72_l3 N k N so1 list5 t9 t10) h)
theorem run0_zz72 (N : Nat) (x : (S_zz72).a.den) : runF (A_zz72) N Try.f169 S_zz72 x = (zz72_s (zz72_R3 N N (zz72_K3 N)) x.1 x.2.1) := by kernel_rfl
theorem run_zz72 (N : Nat) (x : (S_zz72).a.den) : runF (A_zz72) N Try.f169 S_zz72 x = zz72 N x.1 x.2.1 := by
  refine (run0_zz72 N x).trans ?_
  rw [(funext fun so1 => (funext fun list5 => (funext fun t9 => (funext fun t10 => zz72_in3 N so1 list5 t9 t10))))]
  rfl
theorem fn_zz72 : FnOk Try.prog 169 := ⟨_, Try.func169, by kernel_rfl, by kernel_rfl⟩
theorem good_zz72 : Gx.Good Try.prog 169 S_zz72 := good_of_run Try.func169 (of_decide_eq_true (by kernel_rfl)) fun x r h => ⟨A_zz72, big, mkCfg_ok tabOk, mkCfg_sigs (show SigsOk Try.prog [(170, S_zz71)] from ⟨⟨fn_zz71, good_zz71⟩, trivial⟩), (run_zz72 big x).trans h⟩

/-! zz73 -/
def zz73_s (l_0 : Y1) : Option (Y4 × Unit) :=
  (l_0).bind fun xq1 =>
  (zz72 big xq1.1 (l_0, ())).bind fun rq2 =>
  some (rq2.1, (()))
def zz73 (l_0 : Y1) : Option (Y4 × Unit) := zz73_s l_0
def S_zz73 : Sig := { a := (.pair (.opt (.pair (.sl (.sl .bool)) (.pair (.sl (.sl I)) (.pair (.sl (.sl I)) .unit)))) .unit), md := [0], mf := [], m := .unit, r := (.sl I), rf := (.o .i), f := fun x => zz73 x.1 }
def A_zz73 : Cfg := mkCfg tab [(169, S_zz72)] [(3, [.drop, .as (.ptr (.opt (.pair (.sl (.sl .bool)) (.pair (.sl (.sl I)) (.pair (.sl (.sl I)) .unit))))) .i])]
theorem run_zz73 (N : Nat) (x : (S_zz73).a.den) : runF (A_zz73) N Try.f114 S_zz73 x = zz73 x.1 := by kernel_rfl
theorem fn_zz73 : FnOk Try.prog 114 := ⟨_, Try.func114, by kernel_rfl, by kernel_rfl⟩
theorem good_zz73 : Gx.Good Try.prog 114 S_zz73 := good_of_run Try.func114 (of_decide_eq_true (by kernel_rfl)) fun x r h => ⟨A_zz73, big, mkCfg_ok tabOk, mkCfg_sigs (show SigsOk Try.prog [(169, S_zz72)] from ⟨⟨fn_zz72, good_zz72⟩, trivial⟩), (run_zz73 big x).trans h⟩

/-! zz74 -/
def zz74_s (l_0 : Y1) (j_1 : Int) : Option (Int × Unit) :=
  (l_0).bind fun xq1 =>
  (zz70 xq1.1 j_1).bind fun rq2 =>
  (atI rq2.1 (0 : Int)).bind fun _ =>
  (rq2.1[(0 : Int).toNat]?).bind fun xq3 =>
  some (xq3, (()))
def zz74 (l_0 : Y1) (j_1 : Int) : Option (Int × Unit) := zz74_s l_0 j_1
def S_zz74 : Sig := { a := (.pair (.opt (.pair (.sl (.sl .bool)) (.pair (.sl (.sl I)) (.pair (.sl (.sl I)) .unit)))) (.pair I .unit)), md := [0, 0], mf := [], m := .unit, r := I, rf := .i, f := fun x => zz74 x.1 x.2.1 }
def A_zz74 : Cfg := mkCfg tab [(164, S_zz70)] []
theorem run_zz74 (N : Nat) (x : (S_zz74).a.den) : runF (A_zz74) N Try.f146 S_zz74 x = zz74 x.1 x.2.1 := by kernel_rfl
theorem fn_zz74 : FnOk Try.prog 146 := ⟨_, Try.func146, by kernel_rfl, by kernel_rfl⟩
theorem good_zz74 : Gx.Good Try.prog 146 S_zz74 := good_of_run Try.func146 (of_decide_eq_true (by kernel_rfl)) fun x r h => ⟨A_zz74, big, mkCfg_ok tabOk, mkCfg_sigs (show SigsOk Try.prog [(164, S_zz70)] from ⟨⟨fn_zz70, good_zz70⟩, trivial⟩), (run_zz74 big x).trans h⟩
end Go.Proofs.Ythmjdallklcbkaa
