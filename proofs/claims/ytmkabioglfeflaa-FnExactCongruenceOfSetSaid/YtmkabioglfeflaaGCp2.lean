import Derived.Test.YtmkabioglfeflaaGCp1
set_option maxRecDepth 100000
set_option linter.unusedVariables false
namespace Go.Proofs.Ytmkabioglfeflaa
open Go Go.Gx Go.Proofs

/-! zz40 -/
def zz40_b6 (rec : Y5 → Y4 → Int → Bool → Y4 → Int → Int → Y4 → Int → Int → Option (Int × Unit)) (k : Y5 → Y4 → Int → Bool → Y4 → Int → Int → Option (Int × Unit)) (o0 : Y5) (list1 : Y4) (x6 : Int) (top7 : Bool) (t10 : Y4) (t11 : Int) (t12 : Int) (t16 : Y4) (t17 : Int) (t18 : Int) : Option (Int × Unit) :=
  cond (decide (t18 < t17))
  ((atI t16 t18).bind fun xq2 =>
  cond top7
  ((atI o0 xq2).bind fun xq3 =>
  (atI xq3 x6).bind fun xq4 =>
  rec o0 list1 x6 xq4 t10 t11 t12 t16 t17 (IntKind.i64.wrap (t18 + (1 : Int))))
  (rec o0 list1 x6 false t10 t11 t12 t16 t17 (IntKind.i64.wrap (t18 + (1 : Int)))))
  (k o0 list1 x6 top7 t10 t11 t12)
def zz40_a6 (rec : Y5 → Y4 → Y4 → Int → Int → Option (Int × Unit)) (o0 : Y5) (list1 : Y4) (x6 : Int) (top7 : Bool) (t10 : Y4) (t11 : Int) (t12 : Int) : Option (Int × Unit) :=
  cond top7
  (some (x6, (())))
  (rec o0 list1 t10 t11 (IntKind.i64.wrap (t12 + (1 : Int))))
def zz40_b2 (L6 : Y5 → Y4 → Int → Bool → Y4 → Int → Int → Y4 → Int → Int → Option (Int × Unit)) (k : Option (Int × Unit)) (o0 : Y5) (list1 : Y4) (t10 : Y4) (t11 : Int) (t12 : Int) : Option (Int × Unit) :=
  cond (decide (t12 < t11))
  ((atI t10 t12).bind fun xq1 =>
  L6 o0 list1 xq1 true t10 t11 t12 list1 (list1.length : Int) (0 : Int))
  (k)
def zz40_a2 : Option (Int × Unit) :=
  some ((-1 : Int), (()))
def zz40_s (L2 : Y5 → Y4 → Y4 → Int → Int → Option (Int × Unit)) (o_0 : Y5) (list_1 : Y4) : Option (Int × Unit) :=
  L2 o_0 list_1 list_1 (list_1.length : Int) (0 : Int)
def zz40_l6 (N : Nat) (k : Y5 → Y4 → Int → Bool → Y4 → Int → Int → Option (Int × Unit)) : Nat → Y5 → Y4 → Int → Bool → Y4 → Int → Int → Y4 → Int → Int → Option (Int × Unit)
  | 0, _, _, _, _, _, _, _, _, _, _ => none
  | m + 1, o0, list1, x6, top7, t10, t11, t12, t16, t17, t18 => zz40_b6 (zz40_l6 N k m) k o0 list1 x6 top7 t10 t11 t12 t16 t17 t18
def zz40_F6 (N : Nat) (rec : Y5 → Y4 → Y4 → Int → Int → Option (Int × Unit)) (k : Option (Int × Unit)) (o0 : Y5) (list1 : Y4) (x6 : Int) (top7 : Bool) (t10 : Y4) (t11 : Int) (t12 : Int) (t16 : Y4) (t17 : Int) (t18 : Int) : Option (Int × Unit) := zz40_l6 N (zz40_a6 rec) N o0 list1 x6 top7 t10 t11 t12 t16 t17 t18
def zz40_l2 (N : Nat) (k : Option (Int × Unit)) : Nat → Y5 → Y4 → Y4 → Int → Int → Option (Int × Unit)
  | 0, _, _, _, _, _ => none
  | m + 1, o0, list1, t10, t11, t12 => zz40_b2 (zz40_F6 N (zz40_l2 N k m) k) k o0 list1 t10 t11 t12
def zz40_F2 (N : Nat) (o0 : Y5) (list1 : Y4) (t10 : Y4) (t11 : Int) (t12 : Int) : Option (Int × Unit) := zz40_l2 N (zz40_a2) N o0 list1 t10 t11 t12
def zz40 (N : Nat) (o_0 : Y5) (list_1 : Y4) : Option (Int × Unit) := zz40_s (zz40_F2 N) o_0 list_1
def S_zz40 : Sig := { a := (.pair (.sl (.sl .bool)) (.pair (.sl I) .unit)), md := [0, 0], mf := [], m := .unit, r := I, rf := .i, f := fun x => zz40 big x.1 x.2.1 }
def A_zz40 : Cfg := mkCfg tab [] [(4, [.as (.sl (.sl .bool)) .i, .as (.sl I) .i, .drop, .drop, .drop, .drop, .drop, .drop, .drop, .drop, .as (.sl I) .i, .as I .i, .as I .i]), (12, [.as (.sl (.sl .bool)) .i, .as (.sl I) .i, .drop, .drop, .drop, .drop, .as I .i, .as .bool .i, .drop, .drop, .as (.sl I) .i, .as I .i, .as I .i, .drop, .drop, .drop, .as (.sl I) .i, .as I .i, .as I .i]), (27, []), (21, [.as (.sl (.sl .bool)) .i, .as (.sl I) .i, .drop, .drop, .drop, .drop, .as I .i, .as .bool .i, .drop, .drop, .as (.sl I) .i, .as I .i, .as I .i])]
noncomputable def zz40_R2 (N n : Nat) (K : Ex → St → Option (Int × Unit)) (o0 : Y5) (list1 : Y4) (t10 : Y4) (t11 : Int) (t12 : Int) : Option (Int × Unit) := iter ((A_zz40).shape 4) (run (A_zz40) N (codeAt Try.f150 [1, 0, 1, 0, 0])) n ([.val (.sl (.sl .bool)) .i o0, .val (.sl I) .i list1, .u, .u, .u, .u, .u, .u, .u, .u, .val (.sl I) .i t10, .val I .i t11, .val I .i t12] ++ List.replicate 23 .u) K
noncomputable def zz40_R6 (N n : Nat) (K : Ex → St → Option (Int × Unit)) (o0 : Y5) (list1 : Y4) (x6 : Int) (top7 : Bool) (t10 : Y4) (t11 : Int) (t12 : Int) (t16 : Y4) (t17 : Int) (t18 : Int) : Option (Int × Unit) := iter ((A_zz40).shape 12) (run (A_zz40) N (codeAt Try.f150 [1, 0, 1, 0, 0, 1, 1, 0, 0, 1, 1, 0, 1, 0, 0])) n ([.val (.sl (.sl .bool)) .i o0, .val (.sl I) .i list1, .u, .u, .u, .u, .val I .i x6, .val .bool .i top7, .u, .u, .val (.sl I) .i t10, .val I .i t11, .val I .i t12, .u, .u, .u, .val (.sl I) .i t16, .val I .i t17, .val I .i t18] ++ List.replicate 17 .u) K
noncomputable abbrev zz40_z : Ex → St → Option (Int × Unit) := finish (A_zz40) S_zz40 Try.f150.results.toList
noncomputable abbrev zz40_X2 (kX : St → Option (Int × Unit)) : Option (Int × Unit) := kX ([] ++ List.replicate 36 .u)
noncomputable abbrev zz40_E2 (kX : St → Option (Int × Unit)) (kO : Nat → St → Option (Int × Unit)) : Ex → St → Option (Int × Unit) := exK zz40_z 0 ((A_zz40).shape 27) kX kO
noncomputable abbrev zz40_X6 (kX : St → Option (Int × Unit)) : Y5 → Y4 → Int → Bool → Y4 → Int → Int → Option (Int × Unit) := fun (o0 : Y5) (list1 : Y4) (x6 : Int) (top7 : Bool) (t10 : Y4) (t11 : Int) (t12 : Int) => kX ([.val (.sl (.sl .bool)) .i o0, .val (.sl I) .i list1, .u, .u, .u, .u, .val I .i x6, .val .bool .i top7, .u, .u, .val (.sl I) .i t10, .val I .i t11, .val I .i t12] ++ List.replicate 23 .u)
noncomputable abbrev zz40_E6 (kX : St → Option (Int × Unit)) (kO : Nat → St → Option (Int × Unit)) : Ex → St → Option (Int × Unit) := exK zz40_z 2 ((A_zz40).shape 21) kX kO
theorem zz40_step6 (N : Nat) (m : Nat) (kX : St → Option (Int × Unit)) (kO : Nat → St → Option (Int × Unit)) (o0 : Y5) (list1 : Y4) (x6 : Int) (top7 : Bool) (t10 : Y4) (t11 : Int) (t12 : Int) (t16 : Y4) (t17 : Int) (t18 : Int) : zz40_R6 N (m + 1) (zz40_E6 kX kO) o0 list1 x6 top7 t10 t11 t12 t16 t17 t18 = zz40_b6 (zz40_R6 N m (zz40_E6 kX kO)) (zz40_X6 kX) o0 list1 x6 top7 t10 t11 t12 t16 t17 t18 := by kernel_rfl
theorem zz40_iter6 (N : Nat) (kX : St → Option (Int × Unit)) (kO : Nat → St → Option (Int × Unit)) : ∀ (n : Nat) (o0 : Y5) (list1 : Y4) (x6 : Int) (top7 : Bool) (t10 : Y4) (t11 : Int) (t12 : Int) (t16 : Y4) (t17 : Int) (t18 : Int), zz40_R6 N n (zz40_E6 kX kO) o0 list1 x6 top7 t10 t11 t12 t16 t17 t18 = zz40_l6 N (zz40_X6 kX) n o0 list1 x6 top7 t10 t11 t12 t16 t17 t18
  | 0, _, _, _, _, _, _, _, _, _, _ => rfl
  | m + 1, o0, list1, x6, top7, t10, t11, t12, t16, t17, t18 => by
    have hrec : zz40_R6 N m (zz40_E6 kX kO) = (zz40_l6 N (zz40_X6 kX) m) := (funext fun o0 => (funext fun list1 => (funext fun x6 => (funext fun top7 => (funext fun t10 => (funext fun t11 => (funext fun t12 => (funext fun t16 => (funext fun t17 => (funext fun t18 => zz40_iter6 N kX kO m o0 list1 x6 top7 t10 t11 t12 t16 t17 t18))))))))))
    refine (zz40_step6 N m kX kO o0 list1 x6 top7 t10 t11 t12 t16 t17 t18).trans ?_
    rw [hrec]
    rfl
noncomputable abbrev zz40_K6 (N : Nat) (m : Nat) (kX : St → Option (Int × Unit)) (kO : Nat → St → Option (Int × Unit)) : Ex → St → Option (Int × Unit) := (blockK 2 (seqK ((A_zz40).shape 21) (run (A_zz40) N (codeAt Try.f150 [1, 0, 1, 0, 0, 1, 1, 0, 0, 1, 1, 1])) (blockK 1 (seqK ((A_zz40).shape 25) (run (A_zz40) N (codeAt Try.f150 [1, 0, 1, 0, 0, 1, 1, 1])) (iterK ((A_zz40).shape 4) (run (A_zz40) N (codeAt Try.f150 [1, 0, 1, 0, 0])) m (zz40_E2 kX kO))))))
noncomputable abbrev zz40_k6 (N : Nat) (m : Nat) (kX : St → Option (Int × Unit)) (kO : Nat → St → Option (Int × Unit)) : St → Option (Int × Unit) := fun st' => run (A_zz40) N (codeAt Try.f150 [1, 0, 1, 0, 0, 1, 1, 0, 0, 1, 1, 1]) st' (blockK 1 (seqK ((A_zz40).shape 25) (run (A_zz40) N (codeAt Try.f150 [1, 0, 1, 0, 0, 1, 1, 1])) (iterK ((A_zz40).shape 4) (run (A_zz40) N (codeAt Try.f150 [1, 0, 1, 0, 0])) m (zz40_E2 kX kO))))
theorem zz40_after6 (N : Nat) (m : Nat) (kX : St → Option (Int × Unit)) (kO : Nat → St → Option (Int × Unit)) (o0 : Y5) (list1 : Y4) (x6 : Int) (top7 : Bool) (t10 : Y4) (t11 : Int) (t12 : Int) : zz40_X6 (zz40_k6 N m kX kO) o0 list1 x6 top7 t10 t11 t12 = zz40_a6 (zz40_R2 N m (zz40_E2 kX kO)) o0 list1 x6 top7 t10 t11 t12 := by kernel_rfl
theorem zz40_in6 (N : Nat) (m : Nat) (kX : St → Option (Int × Unit)) (kO : Nat → St → Option (Int × Unit)) (recF : Y5 → Y4 → Y4 → Int → Int → Option (Int × Unit)) (hrec : zz40_R2 N m (zz40_E2 kX kO) = recF) (o0 : Y5) (list1 : Y4) (x6 : Int) (top7 : Bool) (t10 : Y4) (t11 : Int) (t12 : Int) (t16 : Y4) (t17 : Int) (t18 : Int) : zz40_R6 N N (zz40_K6 N m kX kO) o0 list1 x6 top7 t10 t11 t12 t16 t17 t18 = zz40_F6 N recF (zz40_X2 kX) o0 list1 x6 top7 t10 t11 t12 t16 t17 t18 :=
  have h : zz40_X6 (zz40_k6 N m kX kO) = (zz40_a6 recF) := (funext fun o0 => (funext fun list1 => (funext fun x6 => (funext fun top7 => (funext fun t10 => (funext fun t11 => (funext fun t12 => (zz40_after6 N m kX kO o0 list1 x6 top7 t10 t11 t12).trans (by rw [hrec]))))))))
  ((iter_ex (fun st => by kernel_rfl) (fun st => by kernel_rfl)).trans (zz40_iter6 N (zz40_k6 N m kX kO) (fun j st => (zz40_K6 N m kX kO) (.exit j) st) N o0 list1 x6 top7 t10 t11 t12 t16 t17 t18)).trans (congrArg (fun k => zz40_l6 N k N o0 list1 x6 top7 t10 t11 t12 t16 t17 t18) h)
theorem zz40_step2 (N : Nat) (m : Nat) (kX : St → Option (Int × Unit)) (kO : Nat → St → Option (Int × Unit)) (o0 : Y5) (list1 : Y4) (t10 : Y4) (t11 : Int) (t12 : Int) : zz40_R2 N (m + 1) (zz40_E2 kX kO) o0 list1 t10 t11 t12 = zz40_b2 (zz40_R6 N N (zz40_K6 N m kX kO)) (zz40_X2 kX) o0 list1 t10 t11 t12 := by kernel_rfl
theorem zz40_iter2 (N : Nat) (kX : St → Option (Int × Unit)) (kO : Nat → St → Option (Int × Unit)) : ∀ (n : Nat) (o0 : Y5) (list1 : Y4) (t10 : Y4) (t11 : Int) (t12 : Int), zz40_R2 N n (zz40_E2 kX kO) o0 list1 t10 t11 t12 = zz40_l2 N (zz40_X2 kX) n o0 list1 t10 t11 t12
  | 0, _, _, _, _, _ => rfl
  | m + 1, o0, list1, t10, t11, t12 => by
    have hrec : zz40_R2 N m (zz40_E2 kX kO) = (zz40_l2 N (zz40_X2 kX) m) := (funext fun o0 => (funext fun list1 => (funext fun t10 => (funext fun t11 => (funext fun t12 => zz40_iter2 N kX kO m o0 list1 t10 t11 t12)))))
    refine (zz40_step2 N m kX kO o0 list1 t10 t11 t12).trans ?_
    rw [(funext fun o0 => (funext fun list1 => (funext fun x6 => (funext fun top7 => (funext fun t10 => (funext fun t11 => (funext fun t12 => (funext fun t16 => (funext fun t17 => (funext fun t18 => zz40_in6 N m kX kO (zz40_l2 N (zz40_X2 kX) m) hrec o0 list1 x6 top7 t10 t11 t12 t16 t17 t18))))))))))]
    rfl
noncomputable abbrev zz40_K2 (N : Nat) : Ex → St → Option (Int × Unit) := (blockK 0 (seqK ((A_zz40).shape 27) (run (A_zz40) N (codeAt Try.f150 [1, 1])) zz40_z))
noncomputable abbrev zz40_k2 (N : Nat) : St → Option (Int × Unit) := fun st' => run (A_zz40) N (codeAt Try.f150 [1, 1]) st' zz40_z
theorem zz40_after2 (N : Nat) : zz40_X2 (zz40_k2 N) = zz40_a2 := by kernel_rfl
theorem zz40_in2 (N : Nat) (o0 : Y5) (list1 : Y4) (t10 : Y4) (t11 : Int) (t12 : Int) : zz40_R2 N N (zz40_K2 N) o0 list1 t10 t11 t12 = zz40_F2 N o0 list1 t10 t11 t12 :=
  have h : zz40_X2 (zz40_k2 N) = (zz40_a2) := zz40_after2 N
  ((iter_ex (fun st => by kernel_rfl) (fun st => by kernel_rfl)).trans (zz40_iter2 N (zz40_k2 N) (fun j st => (zz40_K2 N) (.exit j) st) N o0 list1 t10 t11 t12)).trans (congrArg (fun k => zz40_l2 N k N o0 list1 t10 t11 t12) h)
theorem run0_zz40 (N : Nat) (x : (S_zz40).a.den) : runF (A_zz40) N Try.f150 S_zz40 x = (zz40_s (zz40_R2 N N (zz40_K2 N)) x.1 x.2.1) := by kernel_rfl
theorem run_zz40 (N : Nat) (x : (S_zz40).a.den) : runF (A_zz40) N Try.f150 S_zz40 x = zz40 N x.1 x.2.1 := by
  refine (run0_zz40 N x).trans ?_
  rw [(funext fun o0 => (funext fun list1 => (funext fun t10 => (funext fun t11 => (funext fun t12 => zz40_in2 N o0 list1 t10 t11 t12)))))]
  rfl
theorem fn_zz40 : FnOk Try.prog 150 := ⟨_, Try.func150, by kernel_rfl, by kernel_rfl⟩
theorem good_zz40 : Gx.Good Try.prog 150 S_zz40 := good_of_run Try.func150 (of_decide_eq_true (by kernel_rfl)) fun x r h => ⟨A_zz40, big, mkCfg_ok tabOk, mkCfg_sigs (show SigsOk Try.prog [] from trivial), (run_zz40 big x).trans h⟩

/-! zz41 -/
def zz41_s (z_0 : Int) (p_1 : Y5) (p_2 : Int) (p_3 : Int) : Option (Bool × Unit) :=
  (atI p_1 z_0).bind fun xq1 =>
  (atI xq1 p_2).bind fun xq2 =>
  cond xq2
  ((atI p_1 z_0).bind fun xq3 =>
  (atI xq3 p_3).bind fun xq4 =>
  some (xq4, (())))
  (some (false, (())))
def zz41 (z_0 : Int) (p_1 : Y5) (p_2 : Int) (p_3 : Int) : Option (Bool × Unit) := zz41_s z_0 p_1 p_2 p_3
def S_zz41 : Sig := { a := (.pair I (.pair (.ptr (.sl (.sl .bool))) (.pair (.ptr I) (.pair (.ptr I) .unit)))), md := [0, 0, 0, 0], mf := [], m := .unit, r := .bool, rf := .i, f := fun x => zz41 x.1 x.2.1 x.2.2.1 x.2.2.2.1 }
def A_zz41 : Cfg := mkCfg tab [] []
theorem run_zz41 (N : Nat) (x : (S_zz41).a.den) : runF (A_zz41) N Try.f151 S_zz41 x = zz41 x.1 x.2.1 x.2.2.1 x.2.2.2.1 := by kernel_rfl
theorem fn_zz41 : FnOk Try.prog 151 := ⟨_, Try.func151, by kernel_rfl, by kernel_rfl⟩
theorem good_zz41 : Gx.Good Try.prog 151 S_zz41 := good_of_run Try.func151 (of_decide_eq_true (by kernel_rfl)) fun x r h => ⟨A_zz41, big, mkCfg_ok tabOk, mkCfg_sigs (show SigsOk Try.prog [] from trivial), (run_zz41 big x).trans h⟩

/-! zz42 -/
def zz42_b3 (rec : (Y5 × (Int × (Int × Unit))) → Y4 → Int → Int → Option (Y4 × Unit)) (k : Y4 → Option (Y4 × Unit)) (so1 : (Y5 × (Int × (Int × Unit)))) (list5 : Y4) (t9 : Int) (t10 : Int) : Option (Y4 × Unit) :=
  cond (decide (t10 < t9))
  ((zz41 t10 so1.1 so1.2.1 so1.2.2.1).bind fun rq1 =>
  cond rq1.1
  ((appI list5 [t10]).bind fun xq2 =>
  rec so1 xq2 t9 (IntKind.i64.wrap (t10 + (1 : Int))))
  (rec so1 list5 t9 (IntKind.i64.wrap (t10 + (1 : Int)))))
  (k list5)
def zz42_a3 (list5 : Y4) : Option (Y4 × Unit) :=
  some (list5, (()))
def zz42_s (L3 : (Y5 × (Int × (Int × Unit))) → Y4 → Int → Int → Option (Y4 × Unit)) (o_0 : Y5) (so_1 : (Y5 × (Int × (Int × Unit)))) : Option (Y4 × Unit) :=
  L3 so_1 [] (o_0.length : Int) (0 : Int)
def zz42_l3 (N : Nat) (k : Y4 → Option (Y4 × Unit)) : Nat → (Y5 × (Int × (Int × Unit))) → Y4 → Int → Int → Option (Y4 × Unit)
  | 0, _, _, _, _ => none
  | m + 1, so1, list5, t9, t10 => zz42_b3 (zz42_l3 N k m) k so1 list5 t9 t10
def zz42_F3 (N : Nat) (so1 : (Y5 × (Int × (Int × Unit)))) (list5 : Y4) (t9 : Int) (t10 : Int) : Option (Y4 × Unit) := zz42_l3 N (zz42_a3) N so1 list5 t9 t10
def zz42 (N : Nat) (o_0 : Y5) (so_1 : (Y5 × (Int × (Int × Unit)))) : Option (Y4 × Unit) := zz42_s (zz42_F3 N) o_0 so_1
def S_zz42 : Sig := { a := (.pair (.sl (.sl .bool)) (.pair (.clo 151 0 (.pair (.ptr (.sl (.sl .bool))) (.pair (.ptr I) (.pair (.ptr I) .unit)))) .unit)), md := [0, 0], mf := [], m := .unit, r := (.sl I), rf := (.o .i), f := fun x => zz42 big x.1 x.2.1 }
def A_zz42 : Cfg := mkCfg tab [(151, S_zz41)] [(6, [.drop, .as (.clo 151 0 (.pair (.ptr (.sl (.sl .bool))) (.pair (.ptr I) (.pair (.ptr I) .unit)))) .i, .drop, .drop, .drop, .as (.sl I) (.o .i), .drop, .drop, .drop, .as I .i, .as I .i]), (17, [.drop, .drop, .drop, .drop, .drop, .as (.sl I) (.o .i)])]
noncomputable def zz42_R3 (N n : Nat) (K : Ex → St → Option (Y4 × Unit)) (so1 : (Y5 × (Int × (Int × Unit)))) (list5 : Y4) (t9 : Int) (t10 : Int) : Option (Y4 × Unit) := iter ((A_zz42).shape 6) (run (A_zz42) N (codeAt Try.f104 [1, 1, 0, 1, 0, 0])) n ([.u, .val (.clo 151 0 (.pair (.ptr (.sl (.sl .bool))) (.pair (.ptr I) (.pair (.ptr I) .unit)))) .i so1, .u, .u, .u, .val (.sl I) (.o .i) list5, .u, .u, .u, .val I .i t9, .val I .i t10] ++ List.replicate 11 .u) K
noncomputable abbrev zz42_z : Ex → St → Option (Y4 × Unit) := finish (A_zz42) S_zz42 Try.f104.results.toList
noncomputable abbrev zz42_X3 (kX : St → Option (Y4 × Unit)) : Y4 → Option (Y4 × Unit) := fun (list5 : Y4) => kX ([.u, .u, .u, .u, .u, .val (.sl I) (.o .i) list5] ++ List.replicate 16 .u)
noncomputable abbrev zz42_E3 (kX : St → Option (Y4 × Unit)) (kO : Nat → St → Option (Y4 × Unit)) : Ex → St → Option (Y4 × Unit) := exK zz42_z 0 ((A_zz42).shape 17) kX kO
theorem zz42_step3 (N : Nat) (m : Nat) (kX : St → Option (Y4 × Unit)) (kO : Nat → St → Option (Y4 × Unit)) (so1 : (Y5 × (Int × (Int × Unit)))) (list5 : Y4) (t9 : Int) (t10 : Int) : zz42_R3 N (m + 1) (zz42_E3 kX kO) so1 list5 t9 t10 = zz42_b3 (zz42_R3 N m (zz42_E3 kX kO)) (zz42_X3 kX) so1 list5 t9 t10 := by kernel_rfl
theorem zz42_iter3 (N : Nat) (kX : St → Option (Y4 × Unit)) (kO : Nat → St → Option (Y4 × Unit)) : ∀ (n : Nat) (so1 : (Y5 × (Int × (Int × Unit)))) (list5 : Y4) (t9 : Int) (t10 : Int), zz42_R3 N n (zz42_E3 kX kO) so1 list5 t9 t10 = zz42_l3 N (zz42_X3 kX) n so1 list5 t9 t10
  | 0, _, _, _, _ => rfl
  | m + 1, so1, list5, t9, t10 => by
    have hrec : zz42_R3 N m (zz42_E3 kX kO) = (zz42_l3 N (zz42_X3 kX) m) := (funext fun so1 => (funext fun list5 => (funext fun t9 => (funext fun t10 => zz42_iter3 N kX kO m so1 list5 t9 t10))))
    refine (zz42_step3 N m kX kO so1 list5 t9 t10).trans ?_
    rw [hrec]
    rfl
noncomputable abbrev zz42_K3 (N : Nat) : Ex → St → Option (Y4 × Unit) := (blockK 0 (seqK ((A_zz42).shape 17) (run (A_zz42) N (codeAt Try.f104 [1, 1, 1])) zz42_z))
noncomputable abbrev zz42_k3 (N : Nat) : St → Option (Y4 × Unit) := fun st' => run (A_zz42) N (codeAt Try.f104 [1, 1, 1]) st' zz42_z
theorem zz42_after3 (N : Nat) (list5 : Y4) : zz42_X3 (zz42_k3 N) list5 = zz42_a3 list5 := by kernel_rfl
theorem zz42_in3 (N : Nat) (so1 : (Y5 × (Int × (Int × Unit)))) (list5 : Y4) (t9 : Int) (t10 : Int) : zz42_R3 N N (zz42_K3 N) so1 list5 t9 t10 = zz42_F3 N so1 list5 t9 t10 :=
  have h : zz42_X3 (zz42_k3 N) = (zz42_a3) := (funext fun list5 => zz42_after3 N list5)
  ((iter_ex (fun st => by kernel_rfl) (fun st => by kernel_rfl)).trans (zz42_iter3 N (zz42_k3 N) (fun j st => (zz42_K3 N) (.exit j) st) N so1 list5 t9 t10)).trans (congrArg (fun k => zz42_l3 N k N so1 list5 t9 t10) h)
theorem run0_zz42 (N : Nat) (x : (S_zz42).a.den) : runF (A_zz42) N Try.f104 S_zz42 x = (zz42_s (zz42_R3 N N (zz42_K3 N)) x.1 x.2.1) := by kernel_rfl
theorem run_zz42 (N : Nat) (x : (S_zz42).a.den) : runF (A_zz42) N Try.f104 S_zz42 x = zz42 N x.1 x.2.1 := by
  refine (run0_zz42 N x).trans ?_
  rw [(funext fun so1 => (funext fun list5 => (funext fun t9 => (funext fun t10 => zz42_in3 N so1 list5 t9 t10))))]
  rfl
theorem fn_zz42 : FnOk Try.prog 104 := ⟨_, Try.func104, by kernel_rfl, by kernel_rfl⟩
theorem good_zz42 : Gx.Good Try.prog 104 S_zz42 := good_of_run Try.func104 (of_decide_eq_true (by kernel_rfl)) fun x r h => ⟨A_zz42, big, mkCfg_ok tabOk, mkCfg_sigs (show SigsOk Try.prog [(151, S_zz41)] from ⟨⟨fn_zz41, good_zz41⟩, trivial⟩), (run_zz42 big x).trans h⟩

/-! zz43 -/
def zz43_b7 (rec : Y5 → Y3 → Int → Y4 → Int → Int → Int → Int → Option ((Y3 × (Bool × Unit)) × Unit)) (k : Y5 → Y3 → Y4 → Int → Int → Option ((Y3 × (Bool × Unit)) × Unit)) (o1 : Y5) (table4 : Y3) (x5 : Int) (row6 : Y4) (t11 : Int) (t12 : Int) (t17 : Int) (t18 : Int) : Option ((Y3 × (Bool × Unit)) × Unit) :=
  cond (decide (t18 < t17))
  ((zz42 big o1 (o1, x5, t18, ())).bind fun rq1 =>
  (zz40 big o1 rq1.1).bind fun rq2 =>
  cond (decide (rq2.1 < (0 : Int)))
  (some (([], false, ()), (())))
  ((appI row6 [rq2.1]).bind fun xq3 =>
  rec o1 table4 x5 xq3 t11 t12 t17 (IntKind.i64.wrap (t18 + (1 : Int)))))
  (k o1 table4 row6 t11 t12)
def zz43_a7 (rec : Y5 → Y3 → Int → Int → Option ((Y3 × (Bool × Unit)) × Unit)) (o1 : Y5) (table4 : Y3) (row6 : Y4) (t11 : Int) (t12 : Int) : Option ((Y3 × (Bool × Unit)) × Unit) :=
  (appI table4 [row6]).bind fun xq4 =>
  rec o1 xq4 t11 (IntKind.i64.wrap (t12 + (1 : Int)))
def zz43_b3 (L7 : Y5 → Y3 → Int → Y4 → Int → Int → Int → Int → Option ((Y3 × (Bool × Unit)) × Unit)) (k : Y3 → Option ((Y3 × (Bool × Unit)) × Unit)) (o1 : Y5) (table4 : Y3) (t11 : Int) (t12 : Int) : Option ((Y3 × (Bool × Unit)) × Unit) :=
  cond (decide (t12 < t11))
  (L7 o1 table4 t12 [] t11 t12 (o1.length : Int) (0 : Int))
  (k table4)
def zz43_a3 (table4 : Y3) : Option ((Y3 × (Bool × Unit)) × Unit) :=
  some ((table4, true, ()), (()))
def zz43_s (L3 : Y5 → Y3 → Int → Int → Option ((Y3 × (Bool × Unit)) × Unit)) (o_0 : Y5) : Option ((Y3 × (Bool × Unit)) × Unit) :=
  L3 o_0 [] (o_0.length : Int) (0 : Int)
def zz43_l7 (N : Nat) (k : Y5 → Y3 → Y4 → Int → Int → Option ((Y3 × (Bool × Unit)) × Unit)) : Nat → Y5 → Y3 → Int → Y4 → Int → Int → Int → Int → Option ((Y3 × (Bool × Unit)) × Unit)
  | 0, _, _, _, _, _, _, _, _ => none
  | m + 1, o1, table4, x5, row6, t11, t12, t17, t18 => zz43_b7 (zz43_l7 N k m) k o1 table4 x5 row6 t11 t12 t17 t18
def zz43_F7 (N : Nat) (rec : Y5 → Y3 → Int → Int → Option ((Y3 × (Bool × Unit)) × Unit)) (k : Y3 → Option ((Y3 × (Bool × Unit)) × Unit)) (o1 : Y5) (table4 : Y3) (x5 : Int) (row6 : Y4) (t11 : Int) (t12 : Int) (t17 : Int) (t18 : Int) : Option ((Y3 × (Bool × Unit)) × Unit) := zz43_l7 N (zz43_a7 rec) N o1 table4 x5 row6 t11 t12 t17 t18
def zz43_l3 (N : Nat) (k : Y3 → Option ((Y3 × (Bool × Unit)) × Unit)) : Nat → Y5 → Y3 → Int → Int → Option ((Y3 × (Bool × Unit)) × Unit)
  | 0, _, _, _, _ => none
  | m + 1, o1, table4, t11, t12 => zz43_b3 (zz43_F7 N (zz43_l3 N k m) k) k o1 table4 t11 t12
def zz43_F3 (N : Nat) (o1 : Y5) (table4 : Y3) (t11 : Int) (t12 : Int) : Option ((Y3 × (Bool × Unit)) × Unit) := zz43_l3 N (zz43_a3) N o1 table4 t11 t12
def zz43 (N : Nat) (o_0 : Y5) : Option ((Y3 × (Bool × Unit)) × Unit) := zz43_s (zz43_F3 N) o_0
def S_zz43 : Sig := { a := (.pair (.sl (.sl .bool)) .unit), md := [0], mf := [], m := .unit, r := (.tup (.pair (.sl (.sl I)) (.pair .bool .unit))), rf := (.p (.o (.o .i)) .i), f := fun x => zz43 big x.1 }
def A_zz43 : Cfg := mkCfg tab [(104, S_zz42), (150, S_zz40)] [(6, [.drop, .as (.ptr (.sl (.sl .bool))) .i, .drop, .drop, .as (.sl (.sl I)) (.o (.o .i)), .drop, .drop, .drop, .drop, .drop, .drop, .as I .i, .as I .i]), (14, [.drop, .as (.ptr (.sl (.sl .bool))) .i, .drop, .drop, .as (.sl (.sl I)) (.o (.o .i)), .as (.ptr I) .i, .as (.sl I) (.o .i), .drop, .drop, .drop, .drop, .as I .i, .as I .i, .drop, .drop, .drop, .drop, .as I .i, .as I .i]), (33, [.drop, .drop, .drop, .drop, .as (.sl (.sl I)) (.o (.o .i))]), (19, [.drop, .as (.ptr (.sl (.sl .bool))) .i, .drop, .drop, .as (.sl (.sl I)) (.o (.o .i)), .as (.ptr I) .i, .as (.sl I) (.o .i), .as (.ptr I) .i, .drop, .drop, .drop, .as I .i, .as I .i, .drop, .drop, .drop, .drop, .as I .i, .as I .i]), (29, [.drop, .as (.ptr (.sl (.sl .bool))) .i, .drop, .drop, .as (.sl (.sl I)) (.o (.o .i)), .drop, .as (.sl I) (.o .i), .drop, .drop, .drop, .drop, .as I .i, .as I .i])]
noncomputable def zz43_R3 (N n : Nat) (K : Ex → St → Option ((Y3 × (Bool × Unit)) × Unit)) (o1 : Y5) (table4 : Y3) (t11 : Int) (t12 : Int) : Option ((Y3 × (Bool × Unit)) × Unit) := iter ((A_zz43).shape 6) (run (A_zz43) N (codeAt Try.f132 [1, 1, 0, 1, 0, 0])) n ([.u, .val (.ptr (.sl (.sl .bool))) .i o1, .u, .u, .val (.sl (.sl I)) (.o (.o .i)) table4, .u, .u, .u, .u, .u, .u, .val I .i t11, .val I .i t12] ++ List.replicate 26 .u) K
noncomputable def zz43_R7 (N n : Nat) (K : Ex → St → Option ((Y3 × (Bool × Unit)) × Unit)) (o1 : Y5) (table4 : Y3) (x5 : Int) (row6 : Y4) (t11 : Int) (t12 : Int) (t17 : Int) (t18 : Int) : Option ((Y3 × (Bool × Unit)) × Unit) := iter ((A_zz43).shape 14) (run (A_zz43) N (codeAt Try.f132 [1, 1, 0, 1, 0, 0, 1, 1, 0, 0, 1, 1, 0, 1, 0, 0])) n ([.u, .val (.ptr (.sl (.sl .bool))) .i o1, .u, .u, .val (.sl (.sl I)) (.o (.o .i)) table4, .val (.ptr I) .i x5, .val (.sl I) (.o .i) row6, .u, .u, .u, .u, .val I .i t11, .val I .i t12, .u, .u, .u, .u, .val I .i t17, .val I .i t18] ++ List.replicate 20 .u) K
noncomputable abbrev zz43_z : Ex → St → Option ((Y3 × (Bool × Unit)) × Unit) := finish (A_zz43) S_zz43 Try.f132.results.toList
noncomputable abbrev zz43_X3 (kX : St → Option ((Y3 × (Bool × Unit)) × Unit)) : Y3 → Option ((Y3 × (Bool × Unit)) × Unit) := fun (table4 : Y3) => kX ([.u, .u, .u, .u, .val (.sl (.sl I)) (.o (.o .i)) table4] ++ List.replicate 34 .u)
noncomputable abbrev zz43_E3 (kX : St → Option ((Y3 × (Bool × Unit)) × Unit)) (kO : Nat → St → Option ((Y3 × (Bool × Unit)) × Unit)) : Ex → St → Option ((Y3 × (Bool × Unit)) × Unit) := exK zz43_z 0 ((A_zz43).shape 33) kX kO
noncomputable abbrev zz43_X7 (kX : St → Option ((Y3 × (Bool × Unit)) × Unit)) : Y5 → Y3 → Y4 → Int → Int → Option ((Y3 × (Bool × Unit)) × Unit) := fun (o1 : Y5) (table4 : Y3) (row6 : Y4) (t11 : Int) (t12 : Int) => kX ([.u, .val (.ptr (.sl (.sl .bool))) .i o1, .u, .u, .val (.sl (.sl I)) (.o (.o .i)) table4, .u, .val (.sl I) (.o .i) row6, .u, .u, .u, .u, .val I .i t11, .val I .i t12] ++ List.replicate 26 .u)
noncomputable abbrev zz43_E7 (kX : St → Option ((Y3 × (Bool × Unit)) × Unit)) (kO : Nat → St → Option ((Y3 × (Bool × Unit)) × Unit)) : Ex → St → Option ((Y3 × (Bool × Unit)) × Unit) := exK zz43_z 2 ((A_zz43).shape 29) kX kO
theorem zz43_step7 (N : Nat) (m : Nat) (kX : St → Option ((Y3 × (Bool × Unit)) × Unit)) (kO : Nat → St → Option ((Y3 × (Bool × Unit)) × Unit)) (o1 : Y5) (table4 : Y3) (x5 : Int) (row6 : Y4) (t11 : Int) (t12 : Int) (t17 : Int) (t18 : Int) : zz43_R7 N (m + 1) (zz43_E7 kX kO) o1 table4 x5 row6 t11 t12 t17 t18 = zz43_b7 (zz43_R7 N m (zz43_E7 kX kO)) (zz43_X7 kX) o1 table4 x5 row6 t11 t12 t17 t18 := by kernel_rfl
theorem zz43_iter7 (N : Nat) (kX : St → Option ((Y3 × (Bool × Unit)) × Unit)) (kO : Nat → St → Option ((Y3 × (Bool × Unit)) × Unit)) : ∀ (n : Nat) (o1 : Y5) (table4 : Y3) (x5 : Int) (row6 : Y4) (t11 : Int) (t12 : Int) (t17 : Int) (t18 : Int), zz43_R7 N n (zz43_E7 kX kO) o1 table4 x5 row6 t11 t12 t17 t18 = zz43_l7 N (zz43_X7 kX) n o1 table4 x5 row6 t11 t12 t17 t18
  | 0, _, _, _, _, _, _, _, _ => rfl
  | m + 1, o1, table4, x5, row6, t11, t12, t17, t18 => by
    have hrec : zz43_R7 N m (zz43_E7 kX kO) = (zz43_l7 N (zz43_X7 kX) m) := (funext fun o1 => (funext fun table4 => (funext fun x5 => (funext fun row6 => (funext fun t11 => (funext fun t12 => (funext fun t17 => (funext fun t18 => zz43_iter7 N kX kO m o1 table4 x5 row6 t11 t12 t17 t18))))))))
    refine (zz43_step7 N m kX kO o1 table4 x5 row6 t11 t12 t17 t18).trans ?_
    rw [hrec]
    rfl
noncomputable abbrev zz43_K7 (N : Nat) (m : Nat) (kX : St → Option ((Y3 × (Bool × Unit)) × Unit)) (kO : Nat → St → Option ((Y3 × (Bool × Unit)) × Unit)) : Ex → St → Option ((Y3 × (Bool × Unit)) × Unit) := (blockK 2 (seqK ((A_zz43).shape 29) (run (A_zz43) N (codeAt Try.f132 [1, 1, 0, 1, 0, 0, 1, 1, 0, 0, 1, 1, 1])) (blockK 1 (seqK ((A_zz43).shape 31) (run (A_zz43) N (codeAt Try.f132 [1, 1, 0, 1, 0, 0, 1, 1, 1])) (iterK ((A_zz43).shape 6) (run (A_zz43) N (codeAt Try.f132 [1, 1, 0, 1, 0, 0])) m (zz43_E3 kX kO))))))
noncomputable abbrev zz43_k7 (N : Nat) (m : Nat) (kX : St → Option ((Y3 × (Bool × Unit)) × Unit)) (kO : Nat → St → Option ((Y3 × (Bool × Unit)) × Unit)) : St → Option ((Y3 × (Bool × Unit)) × Unit) := fun st' => run (A_zz43) N (codeAt Try.f132 [1, 1, 0, 1, 0, 0, 1, 1, 0, 0, 1, 1, 1]) st' (blockK 1 (seqK ((A_zz43).shape 31) (run (A_zz43) N (codeAt Try.f132 [1, 1, 0, 1, 0, 0, 1, 1, 1])) (iterK ((A_zz43).shape 6) (run (A_zz43) N (codeAt Try.f132 [1, 1, 0, 1, 0, 0])) m (zz43_E3 kX kO))))
theorem zz43_after7 (N : Nat) (m : Nat) (kX : St → Option ((Y3 × (Bool × Unit)) × Unit)) (kO : Nat → St → Option ((Y3 × (Bool × Unit)) × Unit)) (o1 : Y5) (table4 : Y3) (row6 : Y4) (t11 : Int) (t12 : Int) : zz43_X7 (zz43_k7 N m kX kO) o1 table4 row6 t11 t12 = zz43_a7 (zz43_R3 N m (zz43_E3 kX kO)) o1 table4 row6 t11 t12 := by kernel_rfl
theorem zz43_in7 (N : Nat) (m : Nat) (kX : St → Option ((Y3 × (Bool × Unit)) × Unit)) (kO : Nat → St → Option ((Y3 × (Bool × Unit)) × Unit)) (recF : Y5 → Y3 → Int → Int → Option ((Y3 × (Bool × Unit)) × Unit)) (hrec : zz43_R3 N m (zz43_E3 kX kO) = recF) (o1 : Y5) (table4 : Y3) (x5 : Int) (row6 : Y4) (t11 : Int) (t12 : Int) (t17 : Int) (t18 : Int) : zz43_R7 N N (zz43_K7 N m kX kO) o1 table4 x5 row6 t11 t12 t17 t18 = zz43_F7 N recF (zz43_X3 kX) o1 table4 x5 row6 t11 t12 t17 t18 :=
  have h : zz43_X7 (zz43_k7 N m kX kO) = (zz43_a7 recF) := (funext fun o1 => (funext fun table4 => (funext fun row6 => (funext fun t11 => (funext fun t12 => (zz43_after7 N m kX kO o1 table4 row6 t11 t12).trans (by rw [hrec]))))))
  ((iter_ex (fun st => by kernel_rfl) (fun st => by kernel_rfl)).trans (zz43_iter7 N (zz43_k7 N m kX kO) (fun j st => (zz43_K7 N m kX kO) (.exit j) st) N o1 table4 x5 row6 t11 t12 t17 t18)).trans (congrArg (fun k => zz43_l7 N k N o1 table4 x5 row6 t11 t12 t17 t18) h)
theorem zz43_step3 (N : Nat) (m : Nat) (kX : St → Option ((Y3 × (Bool × Unit)) × Unit)) (kO : Nat → St → Option ((Y3 × (Bool × Unit)) × Unit)) (o1 : Y5) (table4 : Y3) (t11 : Int) (t12 : Int) : zz43_R3 N (m + 1) (zz43_E3 kX kO) o1 table4 t11 t12 = zz43_b3 (zz43_R7 N N (zz43_K7 N m kX kO)) (zz43_X3 kX) o1 table4 t11 t12 := by kernel_rfl
theorem zz43_iter3 (N : Nat) (kX : St → Option ((Y3 × (Bool × Unit)) × Unit)) (kO : Nat → St → Option ((Y3 × (Bool × Unit)) × Unit)) : ∀ (n : Nat) (o1 : Y5) (table4 : Y3) (t11 : Int) (t12 : Int), zz43_R3 N n (zz43_E3 kX kO) o1 table4 t11 t12 = zz43_l3 N (zz43_X3 kX) n o1 table4 t11 t12
  | 0, _, _, _, _ => rfl
  | m + 1, o1, table4, t11, t12 => by
    have hrec : zz43_R3 N m (zz43_E3 kX kO) = (zz43_l3 N (zz43_X3 kX) m) := (funext fun o1 => (funext fun table4 => (funext fun t11 => (funext fun t12 => zz43_iter3 N kX kO m o1 table4 t11 t12))))
    refine (zz43_step3 N m kX kO o1 table4 t11 t12).trans ?_
    rw [(funext fun o1 => (funext fun table4 => (funext fun x5 => (funext fun row6 => (funext fun t11 => (funext fun t12 => (funext fun t17 => (funext fun t18 => zz43_in7 N m kX kO (zz43_l3 N (zz43_X3 kX) m) hrec o1 table4 x5 row6 t11 t12 t17 t18))))))))]
    rfl
noncomputable abbrev zz43_K3 (N : Nat) : Ex → St → Option ((Y3 × (Bool × Unit)) × Unit) := (blockK 0 (seqK ((A_zz43).shape 33) (run (A_zz43) N (codeAt Try.f132 [1, 1, 1])) zz43_z))
noncomputable abbrev zz43_k3 (N : Nat) : St → Option ((Y3 × (Bool × Unit)) × Unit) := fun st' => run (A_zz43) N (codeAt Try.f132 [1, 1, 1]) st' zz43_z
theorem zz43_after3 (N : Nat) (table4 : Y3) : zz43_X3 (zz43_k3 N) table4 = zz43_a3 table4 := by kernel_rfl
theorem zz43_in3 (N : Nat) (o1 : Y5) (table4 : Y3) (t11 : Int) (t12 : Int) : zz43_R3 N N (zz43_K3 N) o1 table4 t11 t12 = zz43_F3 N o1 table4 t11 t12 :=
  have h : zz43_X3 (zz43_k3 N) = (zz43_a3) := (funext fun table4 => zz43_after3 N table4)
  ((iter_ex (fun st => by kernel_rfl) (fun st => by kernel_rfl)).trans (zz43_iter3 N (zz43_k3 N) (fun j st => (zz43_K3 N) (.exit j) st) N o1 table4 t11 t12)).trans (congrArg (fun k => zz43_l3 N k N o1 table4 t11 t12) h)
theorem run0_zz43 (N : Nat) (x : (S_zz43).a.den) : runF (A_zz43) N Try.f132 S_zz43 x = (zz43_s (zz43_R3 N N (zz43_K3 N)) x.1) := by kernel_rfl
theorem run_zz43 (N : Nat) (x : (S_zz43).a.den) : runF (A_zz43) N Try.f132 S_zz43 x = zz43 N x.1 := by
  refine (run0_zz43 N x).trans ?_
  rw [(funext fun o1 => (funext fun table4 => (funext fun t11 => (funext fun t12 => zz43_in3 N o1 table4 t11 t12))))]
  rfl
theorem fn_zz43 : FnOk Try.prog 132 := ⟨_, Try.func132, by kernel_rfl, by kernel_rfl⟩
theorem good_zz43 : Gx.Good Try.prog 132 S_zz43 := good_of_run Try.func132 (of_decide_eq_true (by kernel_rfl)) fun x r h => ⟨A_zz43, big, mkCfg_ok tabOk, mkCfg_sigs (show SigsOk Try.prog [(104, S_zz42), (150, S_zz40)] from ⟨⟨fn_zz42, good_zz42⟩, ⟨fn_zz40, good_zz40⟩, trivial⟩), (run_zz43 big x).trans h⟩

/-! zz44 -/
def zz44_b6 (rec : Y5 → Y5 → Int → Int → Int → Int → Int → Option (Y5 × Unit)) (k : Y5 → Y5 → Int → Int → Option (Y5 × Unit)) (o0 : Y5) (d3 : Y5) (x4 : Int) (t10 : Int) (t11 : Int) (t15 : Int) (t16 : Int) : Option (Y5 × Unit) :=
  cond (decide (t16 < t15))
  ((atI d3 x4).bind fun _ =>
  (d3[x4.toNat]?).bind fun xq2 =>
  (atI o0 t16).bind fun xq3 =>
  (atI xq3 x4).bind fun xq4 =>
  (d3[x4.toNat]?).bind fun xq5 =>
  (atI xq5 t16).bind fun _ =>
  (d3[x4.toNat]?).bind fun xq6 =>
  (xq6[t16.toNat]?).bind fun xq7 =>
  rec o0 (d3.set x4.toNat (xq6.set t16.toNat xq4)) x4 t10 t11 t15 (IntKind.i64.wrap (t16 + (1 : Int))))
  (k o0 d3 t10 t11)
def zz44_a6 (rec : Y5 → Y5 → Int → Int → Option (Y5 × Unit)) (o0 : Y5) (d3 : Y5) (t10 : Int) (t11 : Int) : Option (Y5 × Unit) :=
  rec o0 d3 t10 (IntKind.i64.wrap (t11 + (1 : Int)))
def zz44_b3 (L6 : Y5 → Y5 → Int → Int → Int → Int → Int → Option (Y5 × Unit)) (k : Y5 → Option (Y5 × Unit)) (o0 : Y5) (d3 : Y5) (t10 : Int) (t11 : Int) : Option (Y5 × Unit) :=
  cond (decide (t11 < t10))
  (L6 o0 d3 t11 t10 t11 (o0.length : Int) (0 : Int))
  (k d3)
def zz44_a3 (d3 : Y5) : Option (Y5 × Unit) :=
  some (d3, (()))
def zz44_s (L3 : Y5 → Y5 → Int → Int → Option (Y5 × Unit)) (o_0 : Y5) : Option (Y5 × Unit) :=
  (zz35 big (o_0.length : Int)).bind fun rq1 =>
  L3 o_0 rq1.1 (o_0.length : Int) (0 : Int)
def zz44_l6 (N : Nat) (k : Y5 → Y5 → Int → Int → Option (Y5 × Unit)) : Nat → Y5 → Y5 → Int → Int → Int → Int → Int → Option (Y5 × Unit)
  | 0, _, _, _, _, _, _, _ => none
  | m + 1, o0, d3, x4, t10, t11, t15, t16 => zz44_b6 (zz44_l6 N k m) k o0 d3 x4 t10 t11 t15 t16
def zz44_F6 (N : Nat) (rec : Y5 → Y5 → Int → Int → Option (Y5 × Unit)) (k : Y5 → Option (Y5 × Unit)) (o0 : Y5) (d3 : Y5) (x4 : Int) (t10 : Int) (t11 : Int) (t15 : Int) (t16 : Int) : Option (Y5 × Unit) := zz44_l6 N (zz44_a6 rec) N o0 d3 x4 t10 t11 t15 t16
def zz44_l3 (N : Nat) (k : Y5 → Option (Y5 × Unit)) : Nat → Y5 → Y5 → Int → Int → Option (Y5 × Unit)
  | 0, _, _, _, _ => none
  | m + 1, o0, d3, t10, t11 => zz44_b3 (zz44_F6 N (zz44_l3 N k m) k) k o0 d3 t10 t11
def zz44_F3 (N : Nat) (o0 : Y5) (d3 : Y5) (t10 : Int) (t11 : Int) : Option (Y5 × Unit) := zz44_l3 N (zz44_a3) N o0 d3 t10 t11
def zz44 (N : Nat) (o_0 : Y5) : Option (Y5 × Unit) := zz44_s (zz44_F3 N) o_0
def S_zz44 : Sig := { a := (.pair (.sl (.sl .bool)) .unit), md := [0], mf := [], m := .unit, r := (.sl (.sl .bool)), rf := (.o (.o .i)), f := fun x => zz44 big x.1 }
def A_zz44 : Cfg := mkCfg tab [(67, S_zz35)] [(6, [.as (.sl (.sl .bool)) .i, .drop, .drop, .as (.sl (.sl .bool)) (.o (.o .i)), .drop, .drop, .drop, .drop, .drop, .drop, .as I .i, .as I .i]), (12, [.as (.sl (.sl .bool)) .i, .drop, .drop, .as (.sl (.sl .bool)) (.o (.o .i)), .as I .i, .drop, .drop, .drop, .drop, .drop, .as I .i, .as I .i, .drop, .drop, .drop, .as I .i, .as I .i]), (23, [.drop, .drop, .drop, .as (.sl (.sl .bool)) (.o (.o .i))]), (21, [.as (.sl (.sl .bool)) .i, .drop, .drop, .as (.sl (.sl .bool)) (.o (.o .i)), .drop, .drop, .drop, .drop, .drop, .drop, .as I .i, .as I .i])]
noncomputable def zz44_R3 (N n : Nat) (K : Ex → St → Option (Y5 × Unit)) (o0 : Y5) (d3 : Y5) (t10 : Int) (t11 : Int) : Option (Y5 × Unit) := iter ((A_zz44).shape 6) (run (A_zz44) N (codeAt Try.f133 [1, 1, 0, 1, 0, 0])) n ([.val (.sl (.sl .bool)) .i o0, .u, .u, .val (.sl (.sl .bool)) (.o (.o .i)) d3, .u, .u, .u, .u, .u, .u, .val I .i t10, .val I .i t11] ++ List.replicate 23 .u) K
noncomputable def zz44_R6 (N n : Nat) (K : Ex → St → Option (Y5 × Unit)) (o0 : Y5) (d3 : Y5) (x4 : Int) (t10 : Int) (t11 : Int) (t15 : Int) (t16 : Int) : Option (Y5 × Unit) := iter ((A_zz44).shape 12) (run (A_zz44) N (codeAt Try.f133 [1, 1, 0, 1, 0, 0, 1, 1, 0, 0, 1, 1, 0, 0])) n ([.val (.sl (.sl .bool)) .i o0, .u, .u, .val (.sl (.sl .bool)) (.o (.o .i)) d3, .val I .i x4, .u, .u, .u, .u, .u, .val I .i t10, .val I .i t11, .u, .u, .u, .val I .i t15, .val I .i t16] ++ List.replicate 18 .u) K
noncomputable abbrev zz44_z : Ex → St → Option (Y5 × Unit) := finish (A_zz44) S_zz44 Try.f133.results.toList
noncomputable abbrev zz44_X3 (kX : St → Option (Y5 × Unit)) : Y5 → Option (Y5 × Unit) := fun (d3 : Y5) => kX ([.u, .u, .u, .val (.sl (.sl .bool)) (.o (.o .i)) d3] ++ List.replicate 31 .u)
noncomputable abbrev zz44_E3 (kX : St → Option (Y5 × Unit)) (kO : Nat → St → Option (Y5 × Unit)) : Ex → St → Option (Y5 × Unit) := exK zz44_z 0 ((A_zz44).shape 23) kX kO
noncomputable abbrev zz44_X6 (kX : St → Option (Y5 × Unit)) : Y5 → Y5 → Int → Int → Option (Y5 × Unit) := fun (o0 : Y5) (d3 : Y5) (t10 : Int) (t11 : Int) => kX ([.val (.sl (.sl .bool)) .i o0, .u, .u, .val (.sl (.sl .bool)) (.o (.o .i)) d3, .u, .u, .u, .u, .u, .u, .val I .i t10, .val I .i t11] ++ List.replicate 23 .u)
noncomputable abbrev zz44_E6 (kX : St → Option (Y5 × Unit)) (kO : Nat → St → Option (Y5 × Unit)) : Ex → St → Option (Y5 × Unit) := exK zz44_z 2 ((A_zz44).shape 21) kX kO
theorem zz44_step6 (N : Nat) (m : Nat) (kX : St → Option (Y5 × Unit)) (kO : Nat → St → Option (Y5 × Unit)) (o0 : Y5) (d3 : Y5) (x4 : Int) (t10 : Int) (t11 : Int) (t15 : Int) (t16 : Int) : zz44_R6 N (m + 1) (zz44_E6 kX kO) o0 d3 x4 t10 t11 t15 t16 = zz44_b6 (zz44_R6 N m (zz44_E6 kX kO)) (zz44_X6 kX) o0 d3 x4 t10 t11 t15 t16 := by kernel_rfl
theorem zz44_iter6 (N : Nat) (kX : St → Option (Y5 × Unit)) (kO : Nat → St → Option (Y5 × Unit)) : ∀ (n : Nat) (o0 : Y5) (d3 : Y5) (x4 : Int) (t10 : Int) (t11 : Int) (t15 : Int) (t16 : Int), zz44_R6 N n (zz44_E6 kX kO) o0 d3 x4 t10 t11 t15 t16 = zz44_l6 N (zz44_X6 kX) n o0 d3 x4 t10 t11 t15 t16
  | 0, _, _, _, _, _, _, _ => rfl
  | m + 1, o0, d3, x4, t10, t11, t15, t16 => by
    have hrec : zz44_R6 N m (zz44_E6 kX kO) = (zz44_l6 N (zz44_X6 kX) m) := (funext fun o0 => (funext fun d3 => (funext fun x4 => (funext fun t10 => (funext fun t11 => (funext fun t15 => (funext fun t16 => zz44_iter6 N kX kO m o0 d3 x4 t10 t11 t15 t16)))))))
    refine (zz44_step6 N m kX kO o0 d3 x4 t10 t11 t15 t16).trans ?_
    rw [hrec]
    rfl
noncomputable abbrev zz44_K6 (N : Nat) (m : Nat) (kX : St → Option (Y5 × Unit)) (kO : Nat → St → Option (Y5 × Unit)) : Ex → St → Option (Y5 × Unit) := (blockK 2 (blockK 1 (seqK ((A_zz44).shape 21) (run (A_zz44) N (codeAt Try.f133 [1, 1, 0, 1, 0, 0, 1, 1, 1])) (iterK ((A_zz44).shape 6) (run (A_zz44) N (codeAt Try.f133 [1, 1, 0, 1, 0, 0])) m (zz44_E3 kX kO)))))
noncomputable abbrev zz44_k6 (N : Nat) (m : Nat) (kX : St → Option (Y5 × Unit)) (kO : Nat → St → Option (Y5 × Unit)) : St → Option (Y5 × Unit) := fun st' => run (A_zz44) N (codeAt Try.f133 [1, 1, 0, 1, 0, 0, 1, 1, 1]) st' (iterK ((A_zz44).shape 6) (run (A_zz44) N (codeAt Try.f133 [1, 1, 0, 1, 0, 0])) m (zz44_E3 kX kO))
theorem zz44_after6 (N : Nat) (m : Nat) (kX : St → Option (Y5 × Unit)) (kO : Nat → St → Option (Y5 × Unit)) (o0 : Y5) (d3 : Y5) (t10 : Int) (t11 : Int) : zz44_X6 (zz44_k6 N m kX kO) o0 d3 t10 t11 = zz44_a6 (zz44_R3 N m (zz44_E3 kX kO)) o0 d3 t10 t11 := by kernel_rfl
theorem zz44_in6 (N : Nat) (m : Nat) (kX : St → Option (Y5 × Unit)) (kO : Nat → St → Option (Y5 × Unit)) (recF : Y5 → Y5 → Int → Int → Option (Y5 × Unit)) (hrec : zz44_R3 N m (zz44_E3 kX kO) = recF) (o0 : Y5) (d3 : Y5) (x4 : Int) (t10 : Int) (t11 : Int) (t15 : Int) (t16 : Int) : zz44_R6 N N (zz44_K6 N m kX kO) o0 d3 x4 t10 t11 t15 t16 = zz44_F6 N recF (zz44_X3 kX) o0 d3 x4 t10 t11 t15 t16 :=
  have h : zz44_X6 (zz44_k6 N m kX kO) = (zz44_a6 recF) := (funext fun o0 => (funext fun d3 => (funext fun t10 => (funext fun t11 => (zz44_after6 N m kX kO o0 d3 t10 t11).trans (by rw [hrec])))))
  ((iter_ex (fun st => by kernel_rfl) (fun st => by kernel_rfl)).trans (zz44_iter6 N (zz44_k6 N m kX kO) (fun j st => (zz44_K6 N m kX kO) (.exit j) st) N o0 d3 x4 t10 t11 t15 t16)).trans (congrArg (fun k => zz44_l6 N k N o0 d3 x4 t10 t11 t15 t16) h)
theorem zz44_step3 (N : Nat) (m : Nat) (kX : St → Option (Y5 × Unit)) (kO : Nat → St → Option (Y5 × Unit)) (o0 : Y5) (d3 : Y5) (t10 : Int) (t11 : Int) : zz44_R3 N (m + 1) (zz44_E3 kX kO) o0 d3 t10 t11 = zz44_b3 (zz44_R6 N N (zz44_K6 N m kX kO)) (zz44_X3 kX) o0 d3 t10 t11 := by kernel_rfl
theorem zz44_iter3 (N : Nat) (kX : St → Option (Y5 × Unit)) (kO : Nat → St → Option (Y5 × Unit)) : ∀ (n : Nat) (o0 : Y5) (d3 : Y5) (t10 : Int) (t11 : Int), zz44_R3 N n (zz44_E3 kX kO) o0 d3 t10 t11 = zz44_l3 N (zz44_X3 kX) n o0 d3 t10 t11
  | 0, _, _, _, _ => rfl
  | m + 1, o0, d3, t10, t11 => by
    have hrec : zz44_R3 N m (zz44_E3 kX kO) = (zz44_l3 N (zz44_X3 kX) m) := (funext fun o0 => (funext fun d3 => (funext fun t10 => (funext fun t11 => zz44_iter3 N kX kO m o0 d3 t10 t11))))
    refine (zz44_step3 N m kX kO o0 d3 t10 t11).trans ?_
    rw [(funext fun o0 => (funext fun d3 => (funext fun x4 => (funext fun t10 => (funext fun t11 => (funext fun t15 => (funext fun t16 => zz44_in6 N m kX kO (zz44_l3 N (zz44_X3 kX) m) hrec o0 d3 x4 t10 t11 t15 t16)))))))]
    rfl
noncomputable abbrev zz44_K3 (N : Nat) : Ex → St → Option (Y5 × Unit) := (blockK 0 (seqK ((A_zz44).shape 23) (run (A_zz44) N (codeAt Try.f133 [1, 1, 1])) zz44_z))
noncomputable abbrev zz44_k3 (N : Nat) : St → Option (Y5 × Unit) := fun st' => run (A_zz44) N (codeAt Try.f133 [1, 1, 1]) st' zz44_z
theorem zz44_after3 (N : Nat) (d3 : Y5) : zz44_X3 (zz44_k3 N) d3 = zz44_a3 d3 := by kernel_rfl
theorem zz44_in3 (N : Nat) (o0 : Y5) (d3 : Y5) (t10 : Int) (t11 : Int) : zz44_R3 N N (zz44_K3 N) o0 d3 t10 t11 = zz44_F3 N o0 d3 t10 t11 :=
  have h : zz44_X3 (zz44_k3 N) = (zz44_a3) := (funext fun d3 => zz44_after3 N d3)
  ((iter_ex (fun st => by kernel_rfl) (fun st => by kernel_rfl)).trans (zz44_iter3 N (zz44_k3 N) (fun j st => (zz44_K3 N) (.exit j) st) N o0 d3 t10 t11)).trans (congrArg (fun k => zz44_l3 N k N o0 d3 t10 t11) h)
theorem run0_zz44 (N : Nat) (x : (S_zz44).a.den) : runF (A_zz44) N Try.f133 S_zz44 x = (zz44_s (zz44_R3 N N (zz44_K3 N)) x.1) := by kernel_rfl
theorem run_zz44 (N : Nat) (x : (S_zz44).a.den) : runF (A_zz44) N Try.f133 S_zz44 x = zz44 N x.1 := by
  refine (run0_zz44 N x).trans ?_
  rw [(funext fun o0 => (funext fun d3 => (funext fun t10 => (funext fun t11 => zz44_in3 N o0 d3 t10 t11))))]
  rfl
theorem fn_zz44 : FnOk Try.prog 133 := ⟨_, Try.func133, by kernel_rfl, by kernel_rfl⟩
theorem good_zz44 : Gx.Good Try.prog 133 S_zz44 := good_of_run Try.func133 (of_decide_eq_true (by kernel_rfl)) fun x r h => ⟨A_zz44, big, mkCfg_ok tabOk, mkCfg_sigs (show SigsOk Try.prog [(67, S_zz35)] from ⟨⟨fn_zz35, good_zz35⟩, trivial⟩), (run_zz44 big x).trans h⟩

/-! zz45 -/
def zz45_s (p_0 : Y2) : Option ((Y1 × (Bool × Unit)) × Unit) :=
  (zz39 big p_0).bind fun rq1 =>
  cond (!((((), rq1.1.2).2).1))
  (some ((none, false, ()), (())))
  (cond (decide ((rq1.1.1.length : Int) = (0 : Int)))
  (some ((none, false, ()), (())))
  ((zz43 big rq1.1.1).bind fun rq2 =>
  (zz44 big rq1.1.1).bind fun rq3 =>
  (zz43 big rq3.1).bind fun rq4 =>
  cond ((((), rq2.1.2).2).1)
  (some ((some (rq1.1.1, (rq2.1.1, (rq4.1.1, ()))), (((), rq4.1.2).2).1, ()), (())))
  (some ((some (rq1.1.1, (rq2.1.1, (rq4.1.1, ()))), false, ()), (())))))
def zz45 (p_0 : Y2) : Option ((Y1 × (Bool × Unit)) × Unit) := zz45_s p_0
def S_zz45 : Sig := { a := (.pair (.pair (.sl (.sl I)) .unit) .unit), md := [0], mf := [], m := .unit, r := (.tup (.pair (.opt (.pair (.sl (.sl .bool)) (.pair (.sl (.sl I)) (.pair (.sl (.sl I)) .unit)))) (.pair .bool .unit))), rf := .i, f := fun x => zz45 x.1 }
def A_zz45 : Cfg := mkCfg tab [(131, S_zz39), (132, S_zz43), (133, S_zz44)] []
theorem run_zz45 (N : Nat) (x : (S_zz45).a.den) : runF (A_zz45) N Try.f91 S_zz45 x = zz45 x.1 := by kernel_rfl
theorem fn_zz45 : FnOk Try.prog 91 := ⟨_, Try.func91, by kernel_rfl, by kernel_rfl⟩
theorem good_zz45 : Gx.Good Try.prog 91 S_zz45 := good_of_run Try.func91 (of_decide_eq_true (by kernel_rfl)) fun x r h => ⟨A_zz45, big, mkCfg_ok tabOk, mkCfg_sigs (show SigsOk Try.prog [(131, S_zz39), (132, S_zz43), (133, S_zz44)] from ⟨⟨fn_zz39, good_zz39⟩, ⟨fn_zz43, good_zz43⟩, ⟨fn_zz44, good_zz44⟩, trivial⟩), (run_zz45 big x).trans h⟩

/-! zz46 -/
def zz46_s (p_0 : Y2) : Option ((Y1 × (Bool × Unit)) × Unit) :=
  (zz45 p_0).bind fun rq1 =>
  cond rq1.1.2.1
  ((rq1.1.1).bind fun xq2 =>
  some ((rq1.1.1, decide ((xq2.1.length : Int) ≤ (8 : Int)), ()), (())))
  (some ((rq1.1.1, false, ()), (())))
def zz46 (p_0 : Y2) : Option ((Y1 × (Bool × Unit)) × Unit) := zz46_s p_0
def S_zz46 : Sig := { a := (.pair (.pair (.sl (.sl I)) .unit) .unit), md := [0], mf := [], m := .unit, r := (.tup (.pair (.opt (.pair (.sl (.sl .bool)) (.pair (.sl (.sl I)) (.pair (.sl (.sl I)) .unit)))) (.pair .bool .unit))), rf := .i, f := fun x => zz46 x.1 }
def A_zz46 : Cfg := mkCfg tab [(91, S_zz45)] []
theorem run_zz46 (N : Nat) (x : (S_zz46).a.den) : runF (A_zz46) N Try.f51 S_zz46 x = zz46 x.1 := by kernel_rfl
theorem fn_zz46 : FnOk Try.prog 51 := ⟨_, Try.func51, by kernel_rfl, by kernel_rfl⟩
theorem good_zz46 : Gx.Good Try.prog 51 S_zz46 := good_of_run Try.func51 (of_decide_eq_true (by kernel_rfl)) fun x r h => ⟨A_zz46, big, mkCfg_ok tabOk, mkCfg_sigs (show SigsOk Try.prog [(91, S_zz45)] from ⟨⟨fn_zz45, good_zz45⟩, trivial⟩), (run_zz46 big x).trans h⟩

/-! zz47 -/
def zz47_s (o_0 : Y5) (list_1 : Y4) : Option (Bool × Unit) :=
  (zz37 big list_1 (o_0.length : Int)).bind fun rq1 =>
  some (rq1.1, (()))
def zz47 (o_0 : Y5) (list_1 : Y4) : Option (Bool × Unit) := zz47_s o_0 list_1
def S_zz47 : Sig := { a := (.pair (.sl (.sl .bool)) (.pair (.sl I) .unit)), md := [0, 0], mf := [], m := .unit, r := .bool, rf := .i, f := fun x => zz47 x.1 x.2.1 }
def A_zz47 : Cfg := mkCfg tab [(134, S_zz37)] []
theorem run_zz47 (N : Nat) (x : (S_zz47).a.den) : runF (A_zz47) N Try.f92 S_zz47 x = zz47 x.1 x.2.1 := by kernel_rfl
theorem fn_zz47 : FnOk Try.prog 92 := ⟨_, Try.func92, by kernel_rfl, by kernel_rfl⟩
theorem good_zz47 : Gx.Good Try.prog 92 S_zz47 := good_of_run Try.func92 (of_decide_eq_true (by kernel_rfl)) fun x r h => ⟨A_zz47, big, mkCfg_ok tabOk, mkCfg_sigs (show SigsOk Try.prog [(134, S_zz37)] from ⟨⟨fn_zz37, good_zz37⟩, trivial⟩), (run_zz47 big x).trans h⟩

/-! zz48 -/
def zz48_s (o_0 : Y5) (x_1 : Int) (y_2 : Int) : Option (Bool × Unit) :=
  cond (decide (x_1 ≠ y_2))
  ((atI o_0 x_1).bind fun xq1 =>
  (atI xq1 y_2).bind fun xq2 =>
  some (xq2, (())))
  (some (false, (())))
def zz48 (o_0 : Y5) (x_1 : Int) (y_2 : Int) : Option (Bool × Unit) := zz48_s o_0 x_1 y_2
def S_zz48 : Sig := { a := (.pair (.sl (.sl .bool)) (.pair I (.pair I .unit))), md := [0, 0, 0], mf := [], m := .unit, r := .bool, rf := .i, f := fun x => zz48 x.1 x.2.1 x.2.2.1 }
def A_zz48 : Cfg := mkCfg tab [] []
theorem run_zz48 (N : Nat) (x : (S_zz48).a.den) : runF (A_zz48) N Try.f152 S_zz48 x = zz48 x.1 x.2.1 x.2.2.1 := by kernel_rfl
theorem fn_zz48 : FnOk Try.prog 152 := ⟨_, Try.func152, by kernel_rfl, by kernel_rfl⟩
theorem good_zz48 : Gx.Good Try.prog 152 S_zz48 := good_of_run Try.func152 (of_decide_eq_true (by kernel_rfl)) fun x r h => ⟨A_zz48, big, mkCfg_ok tabOk, mkCfg_sigs (show SigsOk Try.prog [] from trivial), (run_zz48 big x).trans h⟩

/-! zz49 -/
def zz49_b4 (rec : Y5 → Int → Int → Int → Int → Option (Bool × Unit)) (k : Option (Bool × Unit)) (o0 : Y5) (x1 : Int) (y2 : Int) (t14 : Int) (t15 : Int) : Option (Bool × Unit) :=
  cond (decide (t15 < t14))
  ((zz48 o0 x1 t15).bind fun rq2 =>
  cond rq2.1
  ((zz48 o0 t15 y2).bind fun rq3 =>
  cond rq3.1
  (some (false, (())))
  (rec o0 x1 y2 t14 (IntKind.i64.wrap (t15 + (1 : Int)))))
  (rec o0 x1 y2 t14 (IntKind.i64.wrap (t15 + (1 : Int)))))
  (k)
def zz49_a4 : Option (Bool × Unit) :=
  some (true, (()))
def zz49_s (L4 : Y5 → Int → Int → Int → Int → Option (Bool × Unit)) (o_0 : Y5) (x_1 : Int) (y_2 : Int) : Option (Bool × Unit) :=
  (zz48 o_0 x_1 y_2).bind fun rq1 =>
  cond (!rq1.1)
  (some (false, (())))
  (L4 o_0 x_1 y_2 (o_0.length : Int) (0 : Int))
def zz49_l4 (N : Nat) (k : Option (Bool × Unit)) : Nat → Y5 → Int → Int → Int → Int → Option (Bool × Unit)
  | 0, _, _, _, _, _ => none
  | m + 1, o0, x1, y2, t14, t15 => zz49_b4 (zz49_l4 N k m) k o0 x1 y2 t14 t15
def zz49_F4 (N : Nat) (o0 : Y5) (x1 : Int) (y2 : Int) (t14 : Int) (t15 : Int) : Option (Bool × Unit) := zz49_l4 N (zz49_a4) N o0 x1 y2 t14 t15
def zz49 (N : Nat) (o_0 : Y5) (x_1 : Int) (y_2 : Int) : Option (Bool × Unit) := zz49_s (zz49_F4 N) o_0 x_1 y_2
def S_zz49 : Sig := { a := (.pair (.sl (.sl .bool)) (.pair I (.pair I .unit))), md := [0, 0, 0], mf := [], m := .unit, r := .bool, rf := .i, f := fun x => zz49 big x.1 x.2.1 x.2.2.1 }
def A_zz49 : Cfg := mkCfg tab [(152, S_zz48)] [(8, [.as (.sl (.sl .bool)) .i, .as I .i, .as I .i, .drop, .drop, .drop, .drop, .drop, .drop, .drop, .drop, .drop, .drop, .drop, .as I .i, .as I .i]), (19, [])]
noncomputable def zz49_R4 (N n : Nat) (K : Ex → St → Option (Bool × Unit)) (o0 : Y5) (x1 : Int) (y2 : Int) (t14 : Int) (t15 : Int) : Option (Bool × Unit) := iter ((A_zz49).shape 8) (run (A_zz49) N (codeAt Try.f136 [1, 1, 0, 1, 0, 0])) n ([.val (.sl (.sl .bool)) .i o0, .val I .i x1, .val I .i y2, .u, .u, .u, .u, .u, .u, .u, .u, .u, .u, .u, .val I .i t14, .val I .i t15] ++ List.replicate 13 .u) K
noncomputable abbrev zz49_z : Ex → St → Option (Bool × Unit) := finish (A_zz49) S_zz49 Try.f136.results.toList
noncomputable abbrev zz49_X4 (kX : St → Option (Bool × Unit)) : Option (Bool × Unit) := kX ([] ++ List.replicate 29 .u)
noncomputable abbrev zz49_E4 (kX : St → Option (Bool × Unit)) (kO : Nat → St → Option (Bool × Unit)) : Ex → St → Option (Bool × Unit) := exK zz49_z 0 ((A_zz49).shape 19) kX kO
theorem zz49_step4 (N : Nat) (m : Nat) (kX : St → Option (Bool × Unit)) (kO : Nat → St → Option (Bool × Unit)) (o0 : Y5) (x1 : Int) (y2 : Int) (t14 : Int) (t15 : Int) : zz49_R4 N (m + 1) (zz49_E4 kX kO) o0 x1 y2 t14 t15 = zz49_b4 (zz49_R4 N m (zz49_E4 kX kO)) (zz49_X4 kX) o0 x1 y2 t14 t15 := by kernel_rfl
theorem zz49_iter4 (N : Nat) (kX : St → Option (Bool × Unit)) (kO : Nat → St → Option (Bool × Unit)) : ∀ (n : Nat) (o0 : Y5) (x1 : Int) (y2 : Int) (t14 : Int) (t15 : Int), zz49_R4 N n (zz49_E4 kX kO) o0 x1 y2 t14 t15 = zz49_l4 N (zz49_X4 kX) n o0 x1 y2 t14 t15
  | 0, _, _, _, _, _ => rfl
  | m + 1, o0, x1, y2, t14, t15 => by
    have hrec : zz49_R4 N m (zz49_E4 kX kO) = (zz49_l4 N (zz49_X4 kX) m) := (funext fun o0 => (funext fun x1 => (funext fun y2 => (funext fun t14 => (funext fun t15 => zz49_iter4 N kX kO m o0 x1 y2 t14 t15)))))
    refine (zz49_step4 N m kX kO o0 x1 y2 t14 t15).trans ?_
    rw [hrec]
    rfl
noncomputable abbrev zz49_K4 (N : Nat) : Ex → St → Option (Bool × Unit) := (blockK 0 (seqK ((A_zz49).shape 19) (run (A_zz49) N (codeAt Try.f136 [1, 1, 1])) zz49_z))
noncomputable abbrev zz49_k4 (N : Nat) : St → Option (Bool × Unit) := fun st' => run (A_zz49) N (codeAt Try.f136 [1, 1, 1]) st' zz49_z
theorem zz49_after4 (N : Nat) : zz49_X4 (zz49_k4 N) = zz49_a4 := by kernel_rfl
theorem zz49_in4 (N : Nat) (o0 : Y5) (x1 : Int) (y2 : Int) (t14 : Int) (t15 : Int) : zz49_R4 N N (zz49_K4 N) o0 x1 y2 t14 t15 = zz49_F4 N o0 x1 y2 t14 t15 :=
  have h : zz49_X4 (zz49_k4 N) = (zz49_a4) := zz49_after4 N
  ((iter_ex (fun st => by kernel_rfl) (fun st => by kernel_rfl)).trans (zz49_iter4 N (zz49_k4 N) (fun j st => (zz49_K4 N) (.exit j) st) N o0 x1 y2 t14 t15)).trans (congrArg (fun k => zz49_l4 N k N o0 x1 y2 t14 t15) h)
theorem run0_zz49 (N : Nat) (x : (S_zz49).a.den) : runF (A_zz49) N Try.f136 S_zz49 x = (zz49_s (zz49_R4 N N (zz49_K4 N)) x.1 x.2.1 x.2.2.1) := by kernel_rfl
theorem run_zz49 (N : Nat) (x : (S_zz49).a.den) : runF (A_zz49) N Try.f136 S_zz49 x = zz49 N x.1 x.2.1 x.2.2.1 := by
  refine (run0_zz49 N x).trans ?_
  rw [(funext fun o0 => (funext fun x1 => (funext fun y2 => (funext fun t14 => (funext fun t15 => zz49_in4 N o0 x1 y2 t14 t15)))))]
  rfl
theorem fn_zz49 : FnOk Try.prog 136 := ⟨_, Try.func136, by kernel_rfl, by kernel_rfl⟩
theorem good_zz49 : Gx.Good Try.prog 136 S_zz49 := good_of_run Try.func136 (of_decide_eq_true (by kernel_rfl)) fun x r h => ⟨A_zz49, big, mkCfg_ok tabOk, mkCfg_sigs (show SigsOk Try.prog [(152, S_zz48)] from ⟨⟨fn_zz48, good_zz48⟩, trivial⟩), (run_zz49 big x).trans h⟩

/-! zz50 -/
def zz50_s (y_0 : Int) (p_1 : Y5) (p_2 : Int) : Option (Bool × Unit) :=
  (zz49 big p_1 y_0 p_2).bind fun rq1 =>
  some (rq1.1, (()))
def zz50 (y_0 : Int) (p_1 : Y5) (p_2 : Int) : Option (Bool × Unit) := zz50_s y_0 p_1 p_2
def S_zz50 : Sig := { a := (.pair I (.pair (.ptr (.sl (.sl .bool))) (.pair (.ptr I) .unit))), md := [0, 0, 0], mf := [], m := .unit, r := .bool, rf := .i, f := fun x => zz50 x.1 x.2.1 x.2.2.1 }
def A_zz50 : Cfg := mkCfg tab [(136, S_zz49)] []
theorem run_zz50 (N : Nat) (x : (S_zz50).a.den) : runF (A_zz50) N Try.f135 S_zz50 x = zz50 x.1 x.2.1 x.2.2.1 := by kernel_rfl
theorem fn_zz50 : FnOk Try.prog 135 := ⟨_, Try.func135, by kernel_rfl, by kernel_rfl⟩
theorem good_zz50 : Gx.Good Try.prog 135 S_zz50 := good_of_run Try.func135 (of_decide_eq_true (by kernel_rfl)) fun x r h => ⟨A_zz50, big, mkCfg_ok tabOk, mkCfg_sigs (show SigsOk Try.prog [(136, S_zz49)] from ⟨⟨fn_zz49, good_zz49⟩, trivial⟩), (run_zz50 big x).trans h⟩

/-! zz51 -/
def zz51_b3 (rec : (Y5 × (Int × Unit)) → Y4 → Int → Int → Option (Y4 × Unit)) (k : Y4 → Option (Y4 × Unit)) (so1 : (Y5 × (Int × Unit))) (list5 : Y4) (t9 : Int) (t10 : Int) : Option (Y4 × Unit) :=
  cond (decide (t10 < t9))
  ((zz50 t10 so1.1 so1.2.1).bind fun rq1 =>
  cond rq1.1
  ((appI list5 [t10]).bind fun xq2 =>
  rec so1 xq2 t9 (IntKind.i64.wrap (t10 + (1 : Int))))
  (rec so1 list5 t9 (IntKind.i64.wrap (t10 + (1 : Int)))))
  (k list5)
def zz51_a3 (list5 : Y4) : Option (Y4 × Unit) :=
  some (list5, (()))
def zz51_s (L3 : (Y5 × (Int × Unit)) → Y4 → Int → Int → Option (Y4 × Unit)) (o_0 : Y5) (so_1 : (Y5 × (Int × Unit))) : Option (Y4 × Unit) :=
  L3 so_1 [] (o_0.length : Int) (0 : Int)
def zz51_l3 (N : Nat) (k : Y4 → Option (Y4 × Unit)) : Nat → (Y5 × (Int × Unit)) → Y4 → Int → Int → Option (Y4 × Unit)
  | 0, _, _, _, _ => none
  | m + 1, so1, list5, t9, t10 => zz51_b3 (zz51_l3 N k m) k so1 list5 t9 t10
def zz51_F3 (N : Nat) (so1 : (Y5 × (Int × Unit))) (list5 : Y4) (t9 : Int) (t10 : Int) : Option (Y4 × Unit) := zz51_l3 N (zz51_a3) N so1 list5 t9 t10
def zz51 (N : Nat) (o_0 : Y5) (so_1 : (Y5 × (Int × Unit))) : Option (Y4 × Unit) := zz51_s (zz51_F3 N) o_0 so_1
def S_zz51 : Sig := { a := (.pair (.sl (.sl .bool)) (.pair (.clo 135 0 (.pair (.ptr (.sl (.sl .bool))) (.pair (.ptr I) .unit))) .unit)), md := [0, 0], mf := [], m := .unit, r := (.sl I), rf := (.o .i), f := fun x => zz51 big x.1 x.2.1 }
def A_zz51 : Cfg := mkCfg tab [(135, S_zz50)] [(6, [.drop, .as (.clo 135 0 (.pair (.ptr (.sl (.sl .bool))) (.pair (.ptr I) .unit))) .i, .drop, .drop, .drop, .as (.sl I) (.o .i), .drop, .drop, .drop, .as I .i, .as I .i]), (17, [.drop, .drop, .drop, .drop, .drop, .as (.sl I) (.o .i)])]
noncomputable def zz51_R3 (N n : Nat) (K : Ex → St → Option (Y4 × Unit)) (so1 : (Y5 × (Int × Unit))) (list5 : Y4) (t9 : Int) (t10 : Int) : Option (Y4 × Unit) := iter ((A_zz51).shape 6) (run (A_zz51) N (codeAt Try.f104 [1, 1, 0, 1, 0, 0])) n ([.u, .val (.clo 135 0 (.pair (.ptr (.sl (.sl .bool))) (.pair (.ptr I) .unit))) .i so1, .u, .u, .u, .val (.sl I) (.o .i) list5, .u, .u, .u, .val I .i t9, .val I .i t10] ++ List.replicate 11 .u) K
noncomputable abbrev zz51_z : Ex → St → Option (Y4 × Unit) := finish (A_zz51) S_zz51 Try.f104.results.toList
noncomputable abbrev zz51_X3 (kX : St → Option (Y4 × Unit)) : Y4 → Option (Y4 × Unit) := fun (list5 : Y4) => kX ([.u, .u, .u, .u, .u, .val (.sl I) (.o .i) list5] ++ List.replicate 16 .u)
noncomputable abbrev zz51_E3 (kX : St → Option (Y4 × Unit)) (kO : Nat → St → Option (Y4 × Unit)) : Ex → St → Option (Y4 × Unit) := exK zz51_z 0 ((A_zz51).shape 17) kX kO
theorem zz51_step3 (N : Nat) (m : Nat) (kX : St → Option (Y4 × Unit)) (kO : Nat → St → Option (Y4 × Unit)) (so1 : (Y5 × (Int × Unit))) (list5 : Y4) (t9 : Int) (t10 : Int) : zz51_R3 N (m + 1) (zz51_E3 kX kO) so1 list5 t9 t10 = zz51_b3 (zz51_R3 N m (zz51_E3 kX kO)) (zz51_X3 kX) so1 list5 t9 t10 := by kernel_rfl
theorem zz51_iter3 (N : Nat) (kX : St → Option (Y4 × Unit)) (kO : Nat → St → Option (Y4 × Unit)) : ∀ (n : Nat) (so1 : (Y5 × (Int × Unit))) (list5 : Y4) (t9 : Int) (t10 : Int), zz51_R3 N n (zz51_E3 kX kO) so1 list5 t9 t10 = zz51_l3 N (zz51_X3 kX) n so1 list5 t9 t10
  | 0, _, _, _, _ => rfl
  | m + 1, so1, list5, t9, t10 => by
    have hrec : zz51_R3 N m (zz51_E3 kX kO) = (zz51_l3 N (zz51_X3 kX) m) := (funext fun so1 => (funext fun list5 => (funext fun t9 => (funext fun t10 => zz51_iter3 N kX kO m so1 list5 t9 t10))))
    refine (zz51_step3 N m kX kO so1 list5 t9 t10).trans ?_
    rw [hrec]
    rfl
noncomputable abbrev zz51_K3 (N : Nat) : Ex → St → Option (Y4 × Unit) := (blockK 0 (seqK ((A_zz51).shape 17) (run (A_zz51) N (codeAt Try.f104 [1, 1, 1])) zz51_z))
noncomputable abbrev zz51_k3 (N : Nat) : St → Option (Y4 × Unit) := fun st' => run (A_zz51) N (codeAt Try.f104 [1, 1, 1]) st' zz51_z
theorem zz51_after3 (N : Nat) (list5 : Y4) : zz51_X3 (zz51_k3 N) list5 = zz51_a3 list5 := by kernel_rfl
theorem zz51_in3 (N : Nat) (so1 : (Y5 × (Int × Unit))) (list5 : Y4) (t9 : Int) (t10 : Int) : zz51_R3 N N (zz51_K3 N) so1 list5 t9 t10 = zz51_F3 N so1 list5 t9 t10 :=
  have h : zz51_X3 (zz51_k3 N) = (zz51_a3) := (funext fun list5 => zz51_after3 N list5)
  ((iter_ex (fun st => by kernel_rfl) (fun st => by kernel_rfl)).trans (zz51_iter3 N (zz51_k3 N) (fun j st => (zz51_K3 N) (.exit j) st) N so1 list5 t9 t10)).trans (congrArg (fun k => zz51_l3 N k N so1 list5 t9 t10) h)
theorem run0_zz51 (N : Nat) (x : (S_zz51).a.den) : runF (A_zz51) N Try.f104 S_zz51 x = (zz51_s (zz51_R3 N N (zz51_K3 N)) x.1 x.2.1) := by kernel_rfl
theorem run_zz51 (N : Nat) (x : (S_zz51).a.den) : runF (A_zz51) N Try.f104 S_zz51 x = zz51 N x.1 x.2.1 := by
  refine (run0_zz51 N x).trans ?_
  rw [(funext fun so1 => (funext fun list5 => (funext fun t9 => (funext fun t10 => zz51_in3 N so1 list5 t9 t10))))]
  rfl
theorem fn_zz51 : FnOk Try.prog 104 := ⟨_, Try.func104, by kernel_rfl, by kernel_rfl⟩
theorem good_zz51 : Gx.Good Try.prog 104 S_zz51 := good_of_run Try.func104 (of_decide_eq_true (by kernel_rfl)) fun x r h => ⟨A_zz51, big, mkCfg_ok tabOk, mkCfg_sigs (show SigsOk Try.prog [(135, S_zz50)] from ⟨⟨fn_zz50, good_zz50⟩, trivial⟩), (run_zz51 big x).trans h⟩

/-! zz52 -/
def zz52_s (o_0 : Y5) (x_1 : Int) : Option (Y4 × Unit) :=
  (zz51 big o_0 (o_0, x_1, ())).bind fun rq1 =>
  some (rq1.1, (()))
def zz52 (o_0 : Y5) (x_1 : Int) : Option (Y4 × Unit) := zz52_s o_0 x_1
def S_zz52 : Sig := { a := (.pair (.sl (.sl .bool)) (.pair I .unit)), md := [0, 0], mf := [], m := .unit, r := (.sl I), rf := (.o .i), f := fun x => zz52 x.1 x.2.1 }
def A_zz52 : Cfg := mkCfg tab [(104, S_zz51)] [(3, [.drop, .drop, .as (.ptr (.sl (.sl .bool))) .i, .as (.ptr I) .i])]
theorem run_zz52 (N : Nat) (x : (S_zz52).a.den) : runF (A_zz52) N Try.f93 S_zz52 x = zz52 x.1 x.2.1 := by kernel_rfl
theorem fn_zz52 : FnOk Try.prog 93 := ⟨_, Try.func93, by kernel_rfl, by kernel_rfl⟩
theorem good_zz52 : Gx.Good Try.prog 93 S_zz52 := good_of_run Try.func93 (of_decide_eq_true (by kernel_rfl)) fun x r h => ⟨A_zz52, big, mkCfg_ok tabOk, mkCfg_sigs (show SigsOk Try.prog [(104, S_zz51)] from ⟨⟨fn_zz51, good_zz51⟩, trivial⟩), (run_zz52 big x).trans h⟩

/-! zz53 -/
def zz53_s (l_0 : Y1) (j_1 : Int) : Option (Bool × Unit) :=
  (l_0).bind fun xq1 =>
  (zz47 xq1.1 [j_1]).bind fun rq2 =>
  cond rq2.1
  ((l_0).bind fun xq3 =>
  (zz52 xq3.1 j_1).bind fun rq4 =>
  some (decide ((rq4.1.length : Int) = (1 : Int)), (())))
  (some (false, (())))
def zz53 (l_0 : Y1) (j_1 : Int) : Option (Bool × Unit) := zz53_s l_0 j_1
def S_zz53 : Sig := { a := (.pair (.opt (.pair (.sl (.sl .bool)) (.pair (.sl (.sl I)) (.pair (.sl (.sl I)) .unit)))) (.pair I .unit)), md := [0, 0], mf := [], m := .unit, r := .bool, rf := .i, f := fun x => zz53 x.1 x.2.1 }
def A_zz53 : Cfg := mkCfg tab [(92, S_zz47), (93, S_zz52)] []
theorem run_zz53 (N : Nat) (x : (S_zz53).a.den) : runF (A_zz53) N Try.f52 S_zz53 x = zz53 x.1 x.2.1 := by kernel_rfl
theorem fn_zz53 : FnOk Try.prog 52 := ⟨_, Try.func52, by kernel_rfl, by kernel_rfl⟩
theorem good_zz53 : Gx.Good Try.prog 52 S_zz53 := good_of_run Try.func52 (of_decide_eq_true (by kernel_rfl)) fun x r h => ⟨A_zz53, big, mkCfg_ok tabOk, mkCfg_sigs (show SigsOk Try.prog [(92, S_zz47), (93, S_zz52)] from ⟨⟨fn_zz47, good_zz47⟩, ⟨fn_zz52, good_zz52⟩, trivial⟩), (run_zz53 big x).trans h⟩

/-! zz54 -/
def zz54_s (l_0 : Y1) (j_1 : Int) : Option (Int × Unit) :=
  (l_0).bind fun xq1 =>
  (zz52 xq1.1 j_1).bind fun rq2 =>
  (atI rq2.1 (0 : Int)).bind fun _ =>
  (rq2.1[(0 : Int).toNat]?).bind fun xq3 =>
  some (xq3, (()))
def zz54 (l_0 : Y1) (j_1 : Int) : Option (Int × Unit) := zz54_s l_0 j_1
def S_zz54 : Sig := { a := (.pair (.opt (.pair (.sl (.sl .bool)) (.pair (.sl (.sl I)) (.pair (.sl (.sl I)) .unit)))) (.pair I .unit)), md := [0, 0], mf := [], m := .unit, r := I, rf := .i, f := fun x => zz54 x.1 x.2.1 }
def A_zz54 : Cfg := mkCfg tab [(93, S_zz52)] []
theorem run_zz54 (N : Nat) (x : (S_zz54).a.den) : runF (A_zz54) N Try.f102 S_zz54 x = zz54 x.1 x.2.1 := by kernel_rfl
theorem fn_zz54 : FnOk Try.prog 102 := ⟨_, Try.func102, by kernel_rfl, by kernel_rfl⟩
theorem good_zz54 : Gx.Good Try.prog 102 S_zz54 := good_of_run Try.func102 (of_decide_eq_true (by kernel_rfl)) fun x r h => ⟨A_zz54, big, mkCfg_ok tabOk, mkCfg_sigs (show SigsOk Try.prog [(93, S_zz52)] from ⟨⟨fn_zz52, good_zz52⟩, trivial⟩), (run_zz54 big x).trans h⟩

/-! zz55 -/
def zz55_b3 (rec : Y6 → Y6 → Y3 → Int → Int → Option (Y6 × Unit)) (k : Y6 → Y6 → Option (Y6 × Unit)) (t2 : Y6) (f3 : Y6) (t7 : Y3) (t8 : Int) (t9 : Int) : Option (Y6 × Unit) :=
  cond (decide (t9 < t8))
  ((atI t7 t9).bind fun xq1 =>
  (appI f3.2.1 xq1).bind fun xq2 =>
  rec t2 ((f3.1, ((), f3.2.2)).1, (xq2, ((f3.1, ((), f3.2.2)).2).2)) t7 t8 (IntKind.i64.wrap (t9 + (1 : Int))))
  (k t2 f3)
def zz55_a3 (t2 : Y6) (f3 : Y6) : Option (Y6 × Unit) :=
  some (f3, (()))
def zz55_s (L3 : Y6 → Y6 → Y3 → Int → Int → Option (Y6 × Unit)) (table_0 : Y3) : Option (Y6 × Unit) :=
  L3 ((0 : Int), (([] : Y4), ())) ((2 : Int), (([] : Y4), ())) table_0 (table_0.length : Int) (0 : Int)
def zz55_l3 (N : Nat) (k : Y6 → Y6 → Option (Y6 × Unit)) : Nat → Y6 → Y6 → Y3 → Int → Int → Option (Y6 × Unit)
  | 0, _, _, _, _, _ => none
  | m + 1, t2, f3, t7, t8, t9 => zz55_b3 (zz55_l3 N k m) k t2 f3 t7 t8 t9
def zz55_F3 (N : Nat) (t2 : Y6) (f3 : Y6) (t7 : Y3) (t8 : Int) (t9 : Int) : Option (Y6 × Unit) := zz55_l3 N (zz55_a3) N t2 f3 t7 t8 t9
def zz55 (N : Nat) (table_0 : Y3) : Option (Y6 × Unit) := zz55_s (zz55_F3 N) table_0
def S_zz55 : Sig := { a := (.pair (.sl (.sl I)) .unit), md := [0], mf := [], m := .unit, r := (.pair I (.pair (.sl I) .unit)), rf := (.p .i (.p (.o .i) .i)), f := fun x => zz55 big x.1 }
def A_zz55 : Cfg := mkCfg tab [] [(6, [.drop, .drop, .as (.ptr (.pair I (.pair (.sl I) .unit))) (.o (.p .i (.p (.o .i) .i))), .as (.ptr (.pair I (.pair (.sl I) .unit))) (.o (.p .i (.p (.o .i) .i))), .drop, .drop, .drop, .as (.sl (.sl I)) .i, .as I .i, .as I .i]), (15, [.drop, .drop, .as (.ptr (.pair I (.pair (.sl I) .unit))) (.o (.p .i (.p (.o .i) .i))), .as (.ptr (.pair I (.pair (.sl I) .unit))) (.o (.p .i (.p (.o .i) .i)))])]
noncomputable def zz55_R3 (N n : Nat) (K : Ex → St → Option (Y6 × Unit)) (t2 : Y6) (f3 : Y6) (t7 : Y3) (t8 : Int) (t9 : Int) : Option (Y6 × Unit) := iter ((A_zz55).shape 6) (run (A_zz55) N (codeAt Try.f86 [1, 1, 0, 1, 0, 0])) n ([.u, .u, .val (.ptr (.pair I (.pair (.sl I) .unit))) (.o (.p .i (.p (.o .i) .i))) t2, .val (.ptr (.pair I (.pair (.sl I) .unit))) (.o (.p .i (.p (.o .i) .i))) f3, .u, .u, .u, .val (.sl (.sl I)) .i t7, .val I .i t8, .val I .i t9] ++ List.replicate 10 .u) K
noncomputable abbrev zz55_z : Ex → St → Option (Y6 × Unit) := finish (A_zz55) S_zz55 Try.f86.results.toList
noncomputable abbrev zz55_X3 (kX : St → Option (Y6 × Unit)) : Y6 → Y6 → Option (Y6 × Unit) := fun (t2 : Y6) (f3 : Y6) => kX ([.u, .u, .val (.ptr (.pair I (.pair (.sl I) .unit))) (.o (.p .i (.p (.o .i) .i))) t2, .val (.ptr (.pair I (.pair (.sl I) .unit))) (.o (.p .i (.p (.o .i) .i))) f3] ++ List.replicate 16 .u)
noncomputable abbrev zz55_E3 (kX : St → Option (Y6 × Unit)) (kO : Nat → St → Option (Y6 × Unit)) : Ex → St → Option (Y6 × Unit) := exK zz55_z 0 ((A_zz55).shape 15) kX kO
theorem zz55_step3 (N : Nat) (m : Nat) (kX : St → Option (Y6 × Unit)) (kO : Nat → St → Option (Y6 × Unit)) (t2 : Y6) (f3 : Y6) (t7 : Y3) (t8 : Int) (t9 : Int) : zz55_R3 N (m + 1) (zz55_E3 kX kO) t2 f3 t7 t8 t9 = zz55_b3 (zz55_R3 N m (zz55_E3 kX kO)) (zz55_X3 kX) t2 f3 t7 t8 t9 := by kernel_rfl
theorem zz55_iter3 (N : Nat) (kX : St → Option (Y6 × Unit)) (kO : Nat → St → Option (Y6 × Unit)) : ∀ (n : Nat) (t2 : Y6) (f3 : Y6) (t7 : Y3) (t8 : Int) (t9 : Int), zz55_R3 N n (zz55_E3 kX kO) t2 f3 t7 t8 t9 = zz55_l3 N (zz55_X3 kX) n t2 f3 t7 t8 t9
  | 0, _, _, _, _, _ => rfl
  | m + 1, t2, f3, t7, t8, t9 => by
    have hrec : zz55_R3 N m (zz55_E3 kX kO) = (zz55_l3 N (zz55_X3 kX) m) := (funext fun t2 => (funext fun f3 => (funext fun t7 => (funext fun t8 => (funext fun t9 => zz55_iter3 N kX kO m t2 f3 t7 t8 t9)))))
    refine (zz55_step3 N m kX kO t2 f3 t7 t8 t9).trans ?_
    rw [hrec]
    rfl
noncomputable abbrev zz55_K3 (N : Nat) : Ex → St → Option (Y6 × Unit) := (blockK 0 (seqK ((A_zz55).shape 15) (run (A_zz55) N (codeAt Try.f86 [1, 1, 1])) zz55_z))
noncomputable abbrev zz55_k3 (N : Nat) : St → Option (Y6 × Unit) := fun st' => run (A_zz55) N (codeAt Try.f86 [1, 1, 1]) st' zz55_z
theorem zz55_after3 (N : Nat) (t2 : Y6) (f3 : Y6) : zz55_X3 (zz55_k3 N) t2 f3 = zz55_a3 t2 f3 := by kernel_rfl
theorem zz55_in3 (N : Nat) (t2 : Y6) (f3 : Y6) (t7 : Y3) (t8 : Int) (t9 : Int) : zz55_R3 N N (zz55_K3 N) t2 f3 t7 t8 t9 = zz55_F3 N t2 f3 t7 t8 t9 :=
  have h : zz55_X3 (zz55_k3 N) = (zz55_a3) := (funext fun t2 => (funext fun f3 => zz55_after3 N t2 f3))
  ((iter_ex (fun st => by kernel_rfl) (fun st => by kernel_rfl)).trans (zz55_iter3 N (zz55_k3 N) (fun j st => (zz55_K3 N) (.exit j) st) N t2 f3 t7 t8 t9)).trans (congrArg (fun k => zz55_l3 N k N t2 f3 t7 t8 t9) h)
theorem run0_zz55 (N : Nat) (x : (S_zz55).a.den) : runF (A_zz55) N Try.f86 S_zz55 x = (zz55_s (zz55_R3 N N (zz55_K3 N)) x.1) := by kernel_rfl
theorem run_zz55 (N : Nat) (x : (S_zz55).a.den) : runF (A_zz55) N Try.f86 S_zz55 x = zz55 N x.1 := by
  refine (run0_zz55 N x).trans ?_
  rw [(funext fun t2 => (funext fun f3 => (funext fun t7 => (funext fun t8 => (funext fun t9 => zz55_in3 N t2 f3 t7 t8 t9)))))]
  rfl
theorem fn_zz55 : FnOk Try.prog 86 := ⟨_, Try.func86, by kernel_rfl, by kernel_rfl⟩
theorem good_zz55 : Gx.Good Try.prog 86 S_zz55 := good_of_run Try.func86 (of_decide_eq_true (by kernel_rfl)) fun x r h => ⟨A_zz55, big, mkCfg_ok tabOk, mkCfg_sigs (show SigsOk Try.prog [] from trivial), (run_zz55 big x).trans h⟩

/-! zz56 -/
def zz56_s (l_0 : Y1) : Option (Y7 × Unit) :=
  (l_0).bind fun xq1 =>
  (l_0).bind fun xq2 =>
  (zz55 big xq2.2.1).bind fun rq3 =>
  (l_0).bind fun xq4 =>
  (zz55 big xq4.2.2.1).bind fun rq5 =>
  some (((xq1.1.length : Int), ([rq3.1, rq5.1], ())), (()))
def zz56 (l_0 : Y1) : Option (Y7 × Unit) := zz56_s l_0
def S_zz56 : Sig := { a := (.pair (.opt (.pair (.sl (.sl .bool)) (.pair (.sl (.sl I)) (.pair (.sl (.sl I)) .unit)))) .unit), md := [0], mf := [], m := .unit, r := (.pair I (.pair (.sl (.pair I (.pair (.sl I) .unit))) .unit)), rf := (.p .i (.p (.o (.p .i (.p (.o .i) .i))) .i)), f := fun x => zz56 x.1 }
def A_zz56 : Cfg := mkCfg tab [(86, S_zz55)] []
theorem run_zz56 (N : Nat) (x : (S_zz56).a.den) : runF (A_zz56) N Try.f59 S_zz56 x = zz56 x.1 := by kernel_rfl
theorem fn_zz56 : FnOk Try.prog 59 := ⟨_, Try.func59, by kernel_rfl, by kernel_rfl⟩
theorem good_zz56 : Gx.Good Try.prog 59 S_zz56 := good_of_run Try.func59 (of_decide_eq_true (by kernel_rfl)) fun x r h => ⟨A_zz56, big, mkCfg_ok tabOk, mkCfg_sigs (show SigsOk Try.prog [(86, S_zz55)] from ⟨⟨fn_zz55, good_zz55⟩, trivial⟩), (run_zz56 big x).trans h⟩

/-! zz57 -/
def zz57_b3 (rec : Y4 → Int → Int → Option (Y4 × Unit)) (k : Y4 → Option (Y4 × Unit)) (p3 : Y4) (t8 : Int) (t9 : Int) : Option (Y4 × Unit) :=
  cond (decide (t9 < t8))
  ((atI p3 t9).bind fun _ =>
  (p3[t9.toNat]?).bind fun xq3 =>
  rec (p3.set t9.toNat t9) t8 (IntKind.i64.wrap (t9 + (1 : Int))))
  (k p3)
def zz57_a3 (p3 : Y4) : Option (Y4 × Unit) :=
  some (p3, (()))
def zz57_s (L3 : Y4 → Int → Int → Option (Y4 × Unit)) (n_0 : Int) : Option (Y4 × Unit) :=
  (mkI (0 : Int) n_0).bind fun xq1 => (mkI (0 : Int) n_0).bind fun xq2 => cond (decide (n_0 ≤ n_0))
  (L3 xq2 (xq2.length : Int) (0 : Int))
  none
def zz57_l3 (N : Nat) (k : Y4 → Option (Y4 × Unit)) : Nat → Y4 → Int → Int → Option (Y4 × Unit)
  | 0, _, _, _ => none
  | m + 1, p3, t8, t9 => zz57_b3 (zz57_l3 N k m) k p3 t8 t9
def zz57_F3 (N : Nat) (p3 : Y4) (t8 : Int) (t9 : Int) : Option (Y4 × Unit) := zz57_l3 N (zz57_a3) N p3 t8 t9
def zz57 (N : Nat) (n_0 : Int) : Option (Y4 × Unit) := zz57_s (zz57_F3 N) n_0
def S_zz57 : Sig := { a := (.pair I .unit), md := [0], mf := [], m := .unit, r := (.sl I), rf := (.o .i), f := fun x => zz57 big x.1 }
def A_zz57 : Cfg := mkCfg tab [] [(6, [.drop, .drop, .drop, .as (.sl I) (.o .i), .drop, .drop, .drop, .drop, .as I .i, .as I .i]), (15, [.drop, .drop, .drop, .as (.sl I) (.o .i)])]
noncomputable def zz57_R3 (N n : Nat) (K : Ex → St → Option (Y4 × Unit)) (p3 : Y4) (t8 : Int) (t9 : Int) : Option (Y4 × Unit) := iter ((A_zz57).shape 6) (run (A_zz57) N (codeAt Try.f144 [1, 1, 0, 1, 0, 0])) n ([.u, .u, .u, .val (.sl I) (.o .i) p3, .u, .u, .u, .u, .val I .i t8, .val I .i t9] ++ List.replicate 8 .u) K
noncomputable abbrev zz57_z : Ex → St → Option (Y4 × Unit) := finish (A_zz57) S_zz57 Try.f144.results.toList
noncomputable abbrev zz57_X3 (kX : St → Option (Y4 × Unit)) : Y4 → Option (Y4 × Unit) := fun (p3 : Y4) => kX ([.u, .u, .u, .val (.sl I) (.o .i) p3] ++ List.replicate 14 .u)
noncomputable abbrev zz57_E3 (kX : St → Option (Y4 × Unit)) (kO : Nat → St → Option (Y4 × Unit)) : Ex → St → Option (Y4 × Unit) := exK zz57_z 0 ((A_zz57).shape 15) kX kO
theorem zz57_step3 (N : Nat) (m : Nat) (kX : St → Option (Y4 × Unit)) (kO : Nat → St → Option (Y4 × Unit)) (p3 : Y4) (t8 : Int) (t9 : Int) : zz57_R3 N (m + 1) (zz57_E3 kX kO) p3 t8 t9 = zz57_b3 (zz57_R3 N m (zz57_E3 kX kO)) (zz57_X3 kX) p3 t8 t9 := by kernel_rfl
theorem zz57_iter3 (N : Nat) (kX : St → Option (Y4 × Unit)) (kO : Nat → St → Option (Y4 × Unit)) : ∀ (n : Nat) (p3 : Y4) (t8 : Int) (t9 : Int), zz57_R3 N n (zz57_E3 kX kO) p3 t8 t9 = zz57_l3 N (zz57_X3 kX) n p3 t8 t9
  | 0, _, _, _ => rfl
  | m + 1, p3, t8, t9 => by
    have hrec : zz57_R3 N m (zz57_E3 kX kO) = (zz57_l3 N (zz57_X3 kX) m) := (funext fun p3 => (funext fun t8 => (funext fun t9 => zz57_iter3 N kX kO m p3 t8 t9)))
    refine (zz57_step3 N m kX kO p3 t8 t9).trans ?_
    rw [hrec]
    rfl
noncomputable abbrev zz57_K3 (N : Nat) : Ex → St → Option (Y4 × Unit) := (blockK 0 (seqK ((A_zz57).shape 15) (run (A_zz57) N (codeAt Try.f144 [1, 1, 1])) zz57_z))
noncomputable abbrev zz57_k3 (N : Nat) : St → Option (Y4 × Unit) := fun st' => run (A_zz57) N (codeAt Try.f144 [1, 1, 1]) st' zz57_z
theorem zz57_after3 (N : Nat) (p3 : Y4) : zz57_X3 (zz57_k3 N) p3 = zz57_a3 p3 := by kernel_rfl
theorem zz57_in3 (N : Nat) (p3 : Y4) (t8 : Int) (t9 : Int) : zz57_R3 N N (zz57_K3 N) p3 t8 t9 = zz57_F3 N p3 t8 t9 :=
  have h : zz57_X3 (zz57_k3 N) = (zz57_a3) := (funext fun p3 => zz57_after3 N p3)
  ((iter_ex (fun st => by kernel_rfl) (fun st => by kernel_rfl)).trans (zz57_iter3 N (zz57_k3 N) (fun j st => (zz57_K3 N) (.exit j) st) N p3 t8 t9)).trans (congrArg (fun k => zz57_l3 N k N p3 t8 t9) h)
theorem run0_zz57 (N : Nat) (x : (S_zz57).a.den) : runF (A_zz57) N Try.f144 S_zz57 x = (zz57_s (zz57_R3 N N (zz57_K3 N)) x.1) := by kernel_rfl
theorem run_zz57 (N : Nat) (x : (S_zz57).a.den) : runF (A_zz57) N Try.f144 S_zz57 x = zz57 N x.1 := by
  refine (run0_zz57 N x).trans ?_
  rw [(funext fun p3 => (funext fun t8 => (funext fun t9 => zz57_in3 N p3 t8 t9)))]
  rfl
theorem fn_zz57 : FnOk Try.prog 144 := ⟨_, Try.func144, by kernel_rfl, by kernel_rfl⟩
theorem good_zz57 : Gx.Good Try.prog 144 S_zz57 := good_of_run Try.func144 (of_decide_eq_true (by kernel_rfl)) fun x r h => ⟨A_zz57, big, mkCfg_ok tabOk, mkCfg_sigs (show SigsOk Try.prog [] from trivial), (run_zz57 big x).trans h⟩

/-! zz58 -/
def zz58_b7 (rec : Y4 → Int → Int → Int → Int → Option (Bool × (Y4 × Unit))) (k : Y4 → Option (Bool × (Y4 × Unit))) (p0 : Y4) (x1 : Int) (y2 : Int) (t25 : Int) (t26 : Int) : Option (Bool × (Y4 × Unit)) :=
  cond (decide (t26 < t25))
  ((atI p0 t26).bind fun _ =>
  (p0[t26.toNat]?).bind fun xq3 =>
  cond (decide (xq3 = y2))
  ((atI p0 t26).bind fun _ =>
  (p0[t26.toNat]?).bind fun xq4 =>
  rec (p0.set t26.toNat x1) x1 y2 t25 (IntKind.i64.wrap (t26 + (1 : Int))))
  (rec p0 x1 y2 t25 (IntKind.i64.wrap (t26 + (1 : Int)))))
  (k p0)
def zz58_a7 (p0 : Y4) : Option (Bool × (Y4 × Unit)) :=
  some (true, (p0, ()))
def zz58_s (L7 : Y4 → Int → Int → Int → Int → Option (Bool × (Y4 × Unit))) (p_0 : Y4) (x_1 : Int) (y_2 : Int) : Option (Bool × (Y4 × Unit)) :=
  (atI p_0 x_1).bind fun _ =>
  (p_0[x_1.toNat]?).bind fun xq1 =>
  (atI p_0 y_2).bind fun _ =>
  (p_0[y_2.toNat]?).bind fun xq2 =>
  cond (decide (xq1 = xq2))
  (some (false, (p_0, ())))
  (cond (decide (xq2 < xq1))
  (L7 p_0 xq2 xq1 (p_0.length : Int) (0 : Int))
  (L7 p_0 xq1 xq2 (p_0.length : Int) (0 : Int)))
def zz58_l7 (N : Nat) (k : Y4 → Option (Bool × (Y4 × Unit))) : Nat → Y4 → Int → Int → Int → Int → Option (Bool × (Y4 × Unit))
  | 0, _, _, _, _, _ => none
  | m + 1, p0, x1, y2, t25, t26 => zz58_b7 (zz58_l7 N k m) k p0 x1 y2 t25 t26
def zz58_F7 (N : Nat) (p0 : Y4) (x1 : Int) (y2 : Int) (t25 : Int) (t26 : Int) : Option (Bool × (Y4 × Unit)) := zz58_l7 N (zz58_a7) N p0 x1 y2 t25 t26
def zz58 (N : Nat) (p_0 : Y4) (x_1 : Int) (y_2 : Int) : Option (Bool × (Y4 × Unit)) := zz58_s (zz58_F7 N) p_0 x_1 y_2
def S_zz58 : Sig := { a := (.pair (.sl I) (.pair I (.pair I .unit))), md := [1, 0, 0], mf := [(.o .i)], m := (.pair (.sl I) .unit), r := .bool, rf := .i, f := fun x => zz58 big x.1 x.2.1 x.2.2.1 }
def A_zz58 : Cfg := mkCfg tab [] [(14, [.as (.sl I) (.o .i), .as I .i, .as I .i, .drop, .drop, .drop, .drop, .drop, .drop, .drop, .drop, .drop, .drop, .drop, .drop, .drop, .drop, .drop, .drop, .drop, .drop, .drop, .drop, .drop, .drop, .as I .i, .as I .i]), (25, [.as (.sl I) (.o .i)])]
noncomputable def zz58_R7 (N n : Nat) (K : Ex → St → Option (Bool × (Y4 × Unit))) (p0 : Y4) (x1 : Int) (y2 : Int) (t25 : Int) (t26 : Int) : Option (Bool × (Y4 × Unit)) := iter ((A_zz58).shape 14) (run (A_zz58) N (codeAt Try.f140 [1, 1, 1, 1, 0, 1, 0, 0])) n ([.val (.sl I) (.o .i) p0, .val I .i x1, .val I .i y2, .u, .u, .u, .u, .u, .u, .u, .u, .u, .u, .u, .u, .u, .u, .u, .u, .u, .u, .u, .u, .u, .u, .val I .i t25, .val I .i t26] ++ List.replicate 13 .u) K
noncomputable abbrev zz58_z : Ex → St → Option (Bool × (Y4 × Unit)) := finish (A_zz58) S_zz58 Try.f140.results.toList
noncomputable abbrev zz58_X7 (kX : St → Option (Bool × (Y4 × Unit))) : Y4 → Option (Bool × (Y4 × Unit)) := fun (p0 : Y4) => kX ([.val (.sl I) (.o .i) p0] ++ List.replicate 39 .u)
noncomputable abbrev zz58_E7 (kX : St → Option (Bool × (Y4 × Unit))) (kO : Nat → St → Option (Bool × (Y4 × Unit))) : Ex → St → Option (Bool × (Y4 × Unit)) := exK zz58_z 0 ((A_zz58).shape 25) kX kO
theorem zz58_step7 (N : Nat) (m : Nat) (kX : St → Option (Bool × (Y4 × Unit))) (kO : Nat → St → Option (Bool × (Y4 × Unit))) (p0 : Y4) (x1 : Int) (y2 : Int) (t25 : Int) (t26 : Int) : zz58_R7 N (m + 1) (zz58_E7 kX kO) p0 x1 y2 t25 t26 = zz58_b7 (zz58_R7 N m (zz58_E7 kX kO)) (zz58_X7 kX) p0 x1 y2 t25 t26 := by kernel_rfl
theorem zz58_iter7 (N : Nat) (kX : St → Option (Bool × (Y4 × Unit))) (kO : Nat → St → Option (Bool × (Y4 × Unit))) : ∀ (n : Nat) (p0 : Y4) (x1 : Int) (y2 : Int) (t25 : Int) (t26 : Int), zz58_R7 N n (zz58_E7 kX kO) p0 x1 y2 t25 t26 = zz58_l7 N (zz58_X7 kX) n p0 x1 y2 t25 t26
  | 0, _, _, _, _, _ => rfl
  | m + 1, p0, x1, y2, t25, t26 => by
    have hrec : zz58_R7 N m (zz58_E7 kX kO) = (zz58_l7 N (zz58_X7 kX) m) := (funext fun p0 => (funext fun x1 => (funext fun y2 => (funext fun t25 => (funext fun t26 => zz58_iter7 N kX kO m p0 x1 y2 t25 t26)))))
    refine (zz58_step7 N m kX kO p0 x1 y2 t25 t26).trans ?_
    rw [hrec]
    rfl
noncomputable abbrev zz58_K7 (N : Nat) : Ex → St → Option (Bool × (Y4 × Unit)) := (blockK 0 (seqK ((A_zz58).shape 25) (run (A_zz58) N (codeAt Try.f140 [1, 1, 1, 1, 1])) zz58_z))
noncomputable abbrev zz58_k7 (N : Nat) : St → Option (Bool × (Y4 × Unit)) := fun st' => run (A_zz58) N (codeAt Try.f140 [1, 1, 1, 1, 1]) st' zz58_z
theorem zz58_after7 (N : Nat) (p0 : Y4) : zz58_X7 (zz58_k7 N) p0 = zz58_a7 p0 := by kernel_rfl
theorem zz58_in7 (N : Nat) (p0 : Y4) (x1 : Int) (y2 : Int) (t25 : Int) (t26 : Int) : zz58_R7 N N (zz58_K7 N) p0 x1 y2 t25 t26 = zz58_F7 N p0 x1 y2 t25 t26 :=
  have h : zz58_X7 (zz58_k7 N) = (zz58_a7) := (funext fun p0 => zz58_after7 N p0)
  ((iter_ex (fun st => by kernel_rfl) (fun st => by kernel_rfl)).trans (zz58_iter7 N (zz58_k7 N) (fun j st => (zz58_K7 N) (.exit j) st) N p0 x1 y2 t25 t26)).trans (congrArg (fun k => zz58_l7 N k N p0 x1 y2 t25 t26) h)
theorem run0_zz58 (N : Nat) (x : (S_zz58).a.den) : runF (A_zz58) N Try.f140 S_zz58 x = (zz58_s (zz58_R7 N N (zz58_K7 N)) x.1 x.2.1 x.2.2.1) := by kernel_rfl
theorem run_zz58 (N : Nat) (x : (S_zz58).a.den) : runF (A_zz58) N Try.f140 S_zz58 x = zz58 N x.1 x.2.1 x.2.2.1 := by
  refine (run0_zz58 N x).trans ?_
  rw [(funext fun p0 => (funext fun x1 => (funext fun y2 => (funext fun t25 => (funext fun t26 => zz58_in7 N p0 x1 y2 t25 t26)))))]
  rfl
theorem fn_zz58 : FnOk Try.prog 140 := ⟨_, Try.func140, by kernel_rfl, by kernel_rfl⟩
theorem good_zz58 : Gx.Good Try.prog 140 S_zz58 := good_of_run Try.func140 (of_decide_eq_true (by kernel_rfl)) fun x r h => ⟨A_zz58, big, mkCfg_ok tabOk, mkCfg_sigs (show SigsOk Try.prog [] from trivial), (run_zz58 big x).trans h⟩

/-! zz59 -/
def zz59_b13 (rec : Y4 → Y7 → Bool → Bool → Y6 → Int → Int → (List Y6) → Int → Int → Y4 → Int → Int → Option (Bool × (Y4 × Unit))) (k : Y4 → Y7 → Bool → Bool → Y6 → Int → Int → (List Y6) → Int → Int → Option (Bool × (Y4 × Unit))) (p1 : Y4) (a2 : Y7) (was5 : Bool) (changed6 : Bool) (f8 : Y6) (step9 : Int) (k10 : Int) (t16 : (List Y6)) (t17 : Int) (t18 : Int) (t29 : Y4) (t30 : Int) (t31 : Int) : Option (Bool × (Y4 × Unit)) :=
  cond (decide (t31 < t30))
  ((atI t29 t31).bind fun xq2 =>
  (quoI IntKind.i64 t31 step9).bind fun xq3 =>
  (remI xq3 a2.1).bind fun xq4 =>
  (atI p1 xq4).bind fun _ =>
  (p1[xq4.toNat]?).bind fun xq5 =>
  (atI f8.2.1 (IntKind.i64.wrap (t31 + (IntKind.i64.wrap ((IntKind.i64.wrap (xq5 - xq4)) * step9))))).bind fun xq6 =>
  (zz58 big p1 xq2 xq6).bind fun rq7 =>
  cond rq7.1
  (rec rq7.2.1 a2 true true f8 step9 k10 t16 t17 t18 t29 t30 (IntKind.i64.wrap (t31 + (1 : Int))))
  (rec rq7.2.1 a2 was5 changed6 f8 step9 k10 t16 t17 t18 t29 t30 (IntKind.i64.wrap (t31 + (1 : Int)))))
  (k p1 a2 was5 changed6 f8 step9 k10 t16 t17 t18)
def zz59_a13 (rec : Y4 → Y7 → Bool → Bool → Y6 → Int → Int → (List Y6) → Int → Int → Option (Bool × (Y4 × Unit))) (p1 : Y4) (a2 : Y7) (was5 : Bool) (changed6 : Bool) (f8 : Y6) (step9 : Int) (k10 : Int) (t16 : (List Y6)) (t17 : Int) (t18 : Int) : Option (Bool × (Y4 × Unit)) :=
  rec p1 a2 was5 changed6 f8 (IntKind.i64.wrap (step9 * a2.1)) (IntKind.i64.wrap (k10 + (1 : Int))) t16 t17 t18
def zz59_b10 (L13 : Y4 → Y7 → Bool → Bool → Y6 → Int → Int → (List Y6) → Int → Int → Y4 → Int → Int → Option (Bool × (Y4 × Unit))) (k : Y4 → Y7 → Bool → Bool → (List Y6) → Int → Int → Option (Bool × (Y4 × Unit))) (p1 : Y4) (a2 : Y7) (was5 : Bool) (changed6 : Bool) (f8 : Y6) (step9 : Int) (k10 : Int) (t16 : (List Y6)) (t17 : Int) (t18 : Int) : Option (Bool × (Y4 × Unit)) :=
  cond (decide (k10 < f8.1))
  (L13 p1 a2 was5 changed6 f8 step9 k10 t16 t17 t18 f8.2.1 (f8.2.1.length : Int) (0 : Int))
  (k p1 a2 was5 changed6 t16 t17 t18)
def zz59_a10 (rec : Y4 → Y7 → Bool → Bool → (List Y6) → Int → Int → Option (Bool × (Y4 × Unit))) (p1 : Y4) (a2 : Y7) (was5 : Bool) (changed6 : Bool) (t16 : (List Y6)) (t17 : Int) (t18 : Int) : Option (Bool × (Y4 × Unit)) :=
  rec p1 a2 was5 changed6 t16 t17 (IntKind.i64.wrap (t18 + (1 : Int)))
def zz59_b6 (L10 : Y4 → Y7 → Bool → Bool → Y6 → Int → Int → (List Y6) → Int → Int → Option (Bool × (Y4 × Unit))) (k : Y4 → Y7 → Bool → Bool → Option (Bool × (Y4 × Unit))) (p1 : Y4) (a2 : Y7) (was5 : Bool) (changed6 : Bool) (t16 : (List Y6)) (t17 : Int) (t18 : Int) : Option (Bool × (Y4 × Unit)) :=
  cond (decide (t18 < t17))
  ((atI t16 t18).bind fun xq1 =>
  L10 p1 a2 was5 changed6 xq1 (1 : Int) (0 : Int) t16 t17 t18)
  (k p1 a2 was5 changed6)
def zz59_a6 (rec : Y4 → Y7 → Bool → Bool → Option (Bool × (Y4 × Unit))) (p1 : Y4) (a2 : Y7) (was5 : Bool) (changed6 : Bool) : Option (Bool × (Y4 × Unit)) :=
  rec p1 a2 was5 changed6
def zz59_b3 (L6 : Y4 → Y7 → Bool → Bool → (List Y6) → Int → Int → Option (Bool × (Y4 × Unit))) (k : Y4 → Bool → Option (Bool × (Y4 × Unit))) (p1 : Y4) (a2 : Y7) (was5 : Bool) (changed6 : Bool) : Option (Bool × (Y4 × Unit)) :=
  cond changed6
  (L6 p1 a2 was5 false a2.2.1 (a2.2.1.length : Int) (0 : Int))
  (k p1 was5)
def zz59_a3 (p1 : Y4) (was5 : Bool) : Option (Bool × (Y4 × Unit)) :=
  some (was5, (p1, ()))
def zz59_s (L3 : Y4 → Y7 → Bool → Bool → Option (Bool × (Y4 × Unit))) (a_0 : Y7) (p_1 : Y4) : Option (Bool × (Y4 × Unit)) :=
  L3 p_1 a_0 false true
def zz59_l13 (N : Nat) (k : Y4 → Y7 → Bool → Bool → Y6 → Int → Int → (List Y6) → Int → Int → Option (Bool × (Y4 × Unit))) : Nat → Y4 → Y7 → Bool → Bool → Y6 → Int → Int → (List Y6) → Int → Int → Y4 → Int → Int → Option (Bool × (Y4 × Unit))
  | 0, _, _, _, _, _, _, _, _, _, _, _, _, _ => none
  | m + 1, p1, a2, was5, changed6, f8, step9, k10, t16, t17, t18, t29, t30, t31 => zz59_b13 (zz59_l13 N k m) k p1 a2 was5 changed6 f8 step9 k10 t16 t17 t18 t29 t30 t31
def zz59_F13 (N : Nat) (rec : Y4 → Y7 → Bool → Bool → Y6 → Int → Int → (List Y6) → Int → Int → Option (Bool × (Y4 × Unit))) (k : Y4 → Y7 → Bool → Bool → (List Y6) → Int → Int → Option (Bool × (Y4 × Unit))) (p1 : Y4) (a2 : Y7) (was5 : Bool) (changed6 : Bool) (f8 : Y6) (step9 : Int) (k10 : Int) (t16 : (List Y6)) (t17 : Int) (t18 : Int) (t29 : Y4) (t30 : Int) (t31 : Int) : Option (Bool × (Y4 × Unit)) := zz59_l13 N (zz59_a13 rec) N p1 a2 was5 changed6 f8 step9 k10 t16 t17 t18 t29 t30 t31
def zz59_l10 (N : Nat) (k : Y4 → Y7 → Bool → Bool → (List Y6) → Int → Int → Option (Bool × (Y4 × Unit))) : Nat → Y4 → Y7 → Bool → Bool → Y6 → Int → Int → (List Y6) → Int → Int → Option (Bool × (Y4 × Unit))
  | 0, _, _, _, _, _, _, _, _, _, _ => none
  | m + 1, p1, a2, was5, changed6, f8, step9, k10, t16, t17, t18 => zz59_b10 (zz59_F13 N (zz59_l10 N k m) k) k p1 a2 was5 changed6 f8 step9 k10 t16 t17 t18
def zz59_F10 (N : Nat) (rec : Y4 → Y7 → Bool → Bool → (List Y6) → Int → Int → Option (Bool × (Y4 × Unit))) (k : Y4 → Y7 → Bool → Bool → Option (Bool × (Y4 × Unit))) (p1 : Y4) (a2 : Y7) (was5 : Bool) (changed6 : Bool) (f8 : Y6) (step9 : Int) (k10 : Int) (t16 : (List Y6)) (t17 : Int) (t18 : Int) : Option (Bool × (Y4 × Unit)) := zz59_l10 N (zz59_a10 rec) N p1 a2 was5 changed6 f8 step9 k10 t16 t17 t18
def zz59_l6 (N : Nat) (k : Y4 → Y7 → Bool → Bool → Option (Bool × (Y4 × Unit))) : Nat → Y4 → Y7 → Bool → Bool → (List Y6) → Int → Int → Option (Bool × (Y4 × Unit))
  | 0, _, _, _, _, _, _, _ => none
  | m + 1, p1, a2, was5, changed6, t16, t17, t18 => zz59_b6 (zz59_F10 N (zz59_l6 N k m) k) k p1 a2 was5 changed6 t16 t17 t18
def zz59_F6 (N : Nat) (rec : Y4 → Y7 → Bool → Bool → Option (Bool × (Y4 × Unit))) (k : Y4 → Bool → Option (Bool × (Y4 × Unit))) (p1 : Y4) (a2 : Y7) (was5 : Bool) (changed6 : Bool) (t16 : (List Y6)) (t17 : Int) (t18 : Int) : Option (Bool × (Y4 × Unit)) := zz59_l6 N (zz59_a6 rec) N p1 a2 was5 changed6 t16 t17 t18
def zz59_l3 (N : Nat) (k : Y4 → Bool → Option (Bool × (Y4 × Unit))) : Nat → Y4 → Y7 → Bool → Bool → Option (Bool × (Y4 × Unit))
  | 0, _, _, _, _ => none
  | m + 1, p1, a2, was5, changed6 => zz59_b3 (zz59_F6 N (zz59_l3 N k m) k) k p1 a2 was5 changed6
def zz59_F3 (N : Nat) (p1 : Y4) (a2 : Y7) (was5 : Bool) (changed6 : Bool) : Option (Bool × (Y4 × Unit)) := zz59_l3 N (zz59_a3) N p1 a2 was5 changed6
def zz59 (N : Nat) (a_0 : Y7) (p_1 : Y4) : Option (Bool × (Y4 × Unit)) := zz59_s (zz59_F3 N) a_0 p_1
def S_zz59 : Sig := { a := (.pair (.pair I (.pair (.sl (.pair I (.pair (.sl I) .unit))) .unit)) (.pair (.sl I) .unit)), md := [0, 1], mf := [(.o .i)], m := (.pair (.sl I) .unit), r := .bool, rf := .i, f := fun x => zz59 big x.1 x.2.1 }
def A_zz59 : Cfg := mkCfg tab [(140, S_zz58)] [(6, [.drop, .as (.sl I) (.o .i), .as (.ptr (.pair I (.pair (.sl (.pair I (.pair (.sl I) .unit))) .unit))) (.o .i), .drop, .drop, .as .bool .i, .as .bool .i]), (12, [.drop, .as (.sl I) (.o .i), .as (.ptr (.pair I (.pair (.sl (.pair I (.pair (.sl I) .unit))) .unit))) (.o .i), .drop, .drop, .as .bool .i, .as .bool .i, .drop, .drop, .drop, .drop, .drop, .drop, .drop, .drop, .drop, .as (.sl (.pair I (.pair (.sl I) .unit))) .i, .as I .i, .as I .i]), (43, [.drop, .as (.sl I) (.o .i), .drop, .drop, .drop, .as .bool .i]), (20, [.drop, .as (.sl I) (.o .i), .as (.ptr (.pair I (.pair (.sl (.pair I (.pair (.sl I) .unit))) .unit))) (.o .i), .drop, .drop, .as .bool .i, .as .bool .i, .drop, .as (.ptr (.pair I (.pair (.sl I) .unit))) (.o .i), .as I .i, .as I .i, .drop, .drop, .drop, .drop, .drop, .as (.sl (.pair I (.pair (.sl I) .unit))) .i, .as I .i, .as I .i]), (26, [.drop, .as (.sl I) (.o .i), .as (.ptr (.pair I (.pair (.sl (.pair I (.pair (.sl I) .unit))) .unit))) (.o .i), .drop, .drop, .as .bool .i, .as .bool .i, .drop, .as (.ptr (.pair I (.pair (.sl I) .unit))) (.o .i), .as I .i, .as I .i, .drop, .drop, .drop, .drop, .drop, .as (.sl (.pair I (.pair (.sl I) .unit))) .i, .as I .i, .as I .i, .drop, .drop, .drop, .drop, .drop, .drop, .drop, .drop, .drop, .drop, .as (.sl I) .i, .as I .i, .as I .i]), (41, [.drop, .as (.sl I) (.o .i), .as (.ptr (.pair I (.pair (.sl (.pair I (.pair (.sl I) .unit))) .unit))) (.o .i), .drop, .drop, .as .bool .i, .as .bool .i, .drop, .drop, .drop, .drop, .drop, .drop, .drop, .drop, .drop, .as (.sl (.pair I (.pair (.sl I) .unit))) .i, .as I .i, .as I .i]), (39, [.drop, .as (.sl I) (.o .i), .as (.ptr (.pair I (.pair (.sl (.pair I (.pair (.sl I) .unit))) .unit))) (.o .i), .drop, .drop, .as .bool .i, .as .bool .i, .drop, .as (.ptr (.pair I (.pair (.sl I) .unit))) (.o .i), .as I .i, .as I .i, .drop, .drop, .drop, .drop, .drop, .as (.sl (.pair I (.pair (.sl I) .unit))) .i, .as I .i, .as I .i])]
noncomputable def zz59_R3 (N n : Nat) (K : Ex → St → Option (Bool × (Y4 × Unit))) (p1 : Y4) (a2 : Y7) (was5 : Bool) (changed6 : Bool) : Option (Bool × (Y4 × Unit)) := iter ((A_zz59).shape 6) (run (A_zz59) N (codeAt Try.f100 [1, 1, 0, 1, 0, 0])) n ([.u, .val (.sl I) (.o .i) p1, .val (.ptr (.pair I (.pair (.sl (.pair I (.pair (.sl I) .unit))) .unit))) (.o .i) a2, .u, .u, .val .bool .i was5, .val .bool .i changed6] ++ List.replicate 59 .u) K
noncomputable def zz59_R6 (N n : Nat) (K : Ex → St → Option (Bool × (Y4 × Unit))) (p1 : Y4) (a2 : Y7) (was5 : Bool) (changed6 : Bool) (t16 : (List Y6)) (t17 : Int) (t18 : Int) : Option (Bool × (Y4 × Unit)) := iter ((A_zz59).shape 12) (run (A_zz59) N (codeAt Try.f100 [1, 1, 0, 1, 0, 0, 1, 0, 1, 1, 0, 0])) n ([.u, .val (.sl I) (.o .i) p1, .val (.ptr (.pair I (.pair (.sl (.pair I (.pair (.sl I) .unit))) .unit))) (.o .i) a2, .u, .u, .val .bool .i was5, .val .bool .i changed6, .u, .u, .u, .u, .u, .u, .u, .u, .u, .val (.sl (.pair I (.pair (.sl I) .unit))) .i t16, .val I .i t17, .val I .i t18] ++ List.replicate 47 .u) K
noncomputable def zz59_R10 (N n : Nat) (K : Ex → St → Option (Bool × (Y4 × Unit))) (p1 : Y4) (a2 : Y7) (was5 : Bool) (changed6 : Bool) (f8 : Y6) (step9 : Int) (k10 : Int) (t16 : (List Y6)) (t17 : Int) (t18 : Int) : Option (Bool × (Y4 × Unit)) := iter ((A_zz59).shape 20) (run (A_zz59) N (codeAt Try.f100 [1, 1, 0, 1, 0, 0, 1, 0, 1, 1, 0, 0, 1, 1, 0, 0, 1, 1, 1, 0, 0])) n ([.u, .val (.sl I) (.o .i) p1, .val (.ptr (.pair I (.pair (.sl (.pair I (.pair (.sl I) .unit))) .unit))) (.o .i) a2, .u, .u, .val .bool .i was5, .val .bool .i changed6, .u, .val (.ptr (.pair I (.pair (.sl I) .unit))) (.o .i) f8, .val I .i step9, .val I .i k10, .u, .u, .u, .u, .u, .val (.sl (.pair I (.pair (.sl I) .unit))) .i t16, .val I .i t17, .val I .i t18] ++ List.replicate 47 .u) K
noncomputable def zz59_R13 (N n : Nat) (K : Ex → St → Option (Bool × (Y4 × Unit))) (p1 : Y4) (a2 : Y7) (was5 : Bool) (changed6 : Bool) (f8 : Y6) (step9 : Int) (k10 : Int) (t16 : (List Y6)) (t17 : Int) (t18 : Int) (t29 : Y4) (t30 : Int) (t31 : Int) : Option (Bool × (Y4 × Unit)) := iter ((A_zz59).shape 26) (run (A_zz59) N (codeAt Try.f100 [1, 1, 0, 1, 0, 0, 1, 0, 1, 1, 0, 0, 1, 1, 0, 0, 1, 1, 1, 0, 0, 1, 0, 0, 0, 1, 0, 0])) n ([.u, .val (.sl I) (.o .i) p1, .val (.ptr (.pair I (.pair (.sl (.pair I (.pair (.sl I) .unit))) .unit))) (.o .i) a2, .u, .u, .val .bool .i was5, .val .bool .i changed6, .u, .val (.ptr (.pair I (.pair (.sl I) .unit))) (.o .i) f8, .val I .i step9, .val I .i k10, .u, .u, .u, .u, .u, .val (.sl (.pair I (.pair (.sl I) .unit))) .i t16, .val I .i t17, .val I .i t18, .u, .u, .u, .u, .u, .u, .u, .u, .u, .u, .val (.sl I) .i t29, .val I .i t30, .val I .i t31] ++ List.replicate 34 .u) K
noncomputable abbrev zz59_z : Ex → St → Option (Bool × (Y4 × Unit)) := finish (A_zz59) S_zz59 Try.f100.results.toList
noncomputable abbrev zz59_X3 (kX : St → Option (Bool × (Y4 × Unit))) : Y4 → Bool → Option (Bool × (Y4 × Unit)) := fun (p1 : Y4) (was5 : Bool) => kX ([.u, .val (.sl I) (.o .i) p1, .u, .u, .u, .val .bool .i was5] ++ List.replicate 60 .u)
noncomputable abbrev zz59_E3 (kX : St → Option (Bool × (Y4 × Unit))) (kO : Nat → St → Option (Bool × (Y4 × Unit))) : Ex → St → Option (Bool × (Y4 × Unit)) := exK zz59_z 0 ((A_zz59).shape 43) kX kO
noncomputable abbrev zz59_X6 (kX : St → Option (Bool × (Y4 × Unit))) : Y4 → Y7 → Bool → Bool → Option (Bool × (Y4 × Unit)) := fun (p1 : Y4) (a2 : Y7) (was5 : Bool) (changed6 : Bool) => kX ([.u, .val (.sl I) (.o .i) p1, .val (.ptr (.pair I (.pair (.sl (.pair I (.pair (.sl I) .unit))) .unit))) (.o .i) a2, .u, .u, .val .bool .i was5, .val .bool .i changed6] ++ List.replicate 59 .u)
noncomputable abbrev zz59_E6 (kX : St → Option (Bool × (Y4 × Unit))) (kO : Nat → St → Option (Bool × (Y4 × Unit))) : Ex → St → Option (Bool × (Y4 × Unit)) := exK zz59_z 2 ((A_zz59).shape 6) kX kO
noncomputable abbrev zz59_X10 (kX : St → Option (Bool × (Y4 × Unit))) : Y4 → Y7 → Bool → Bool → (List Y6) → Int → Int → Option (Bool × (Y4 × Unit)) := fun (p1 : Y4) (a2 : Y7) (was5 : Bool) (changed6 : Bool) (t16 : (List Y6)) (t17 : Int) (t18 : Int) => kX ([.u, .val (.sl I) (.o .i) p1, .val (.ptr (.pair I (.pair (.sl (.pair I (.pair (.sl I) .unit))) .unit))) (.o .i) a2, .u, .u, .val .bool .i was5, .val .bool .i changed6, .u, .u, .u, .u, .u, .u, .u, .u, .u, .val (.sl (.pair I (.pair (.sl I) .unit))) .i t16, .val I .i t17, .val I .i t18] ++ List.replicate 47 .u)
noncomputable abbrev zz59_E10 (kX : St → Option (Bool × (Y4 × Unit))) (kO : Nat → St → Option (Bool × (Y4 × Unit))) : Ex → St → Option (Bool × (Y4 × Unit)) := exK zz59_z 4 ((A_zz59).shape 41) kX kO
noncomputable abbrev zz59_X13 (kX : St → Option (Bool × (Y4 × Unit))) : Y4 → Y7 → Bool → Bool → Y6 → Int → Int → (List Y6) → Int → Int → Option (Bool × (Y4 × Unit)) := fun (p1 : Y4) (a2 : Y7) (was5 : Bool) (changed6 : Bool) (f8 : Y6) (step9 : Int) (k10 : Int) (t16 : (List Y6)) (t17 : Int) (t18 : Int) => kX ([.u, .val (.sl I) (.o .i) p1, .val (.ptr (.pair I (.pair (.sl (.pair I (.pair (.sl I) .unit))) .unit))) (.o .i) a2, .u, .u, .val .bool .i was5, .val .bool .i changed6, .u, .val (.ptr (.pair I (.pair (.sl I) .unit))) (.o .i) f8, .val I .i step9, .val I .i k10, .u, .u, .u, .u, .u, .val (.sl (.pair I (.pair (.sl I) .unit))) .i t16, .val I .i t17, .val I .i t18] ++ List.replicate 47 .u)
noncomputable abbrev zz59_E13 (kX : St → Option (Bool × (Y4 × Unit))) (kO : Nat → St → Option (Bool × (Y4 × Unit))) : Ex → St → Option (Bool × (Y4 × Unit)) := exK zz59_z 6 ((A_zz59).shape 39) kX kO
theorem zz59_step13 (N : Nat) (m : Nat) (kX : St → Option (Bool × (Y4 × Unit))) (kO : Nat → St → Option (Bool × (Y4 × Unit))) (p1 : Y4) (a2 : Y7) (was5 : Bool) (changed6 : Bool) (f8 : Y6) (step9 : Int) (k10 : Int) (t16 : (List Y6)) (t17 : Int) (t18 : Int) (t29 : Y4) (t30 : Int) (t31 : Int) : zz59_R13 N (m + 1) (zz59_E13 kX kO) p1 a2 was5 changed6 f8 step9 k10 t16 t17 t18 t29 t30 t31 = zz59_b13 (zz59_R13 N m (zz59_E13 kX kO)) (zz59_X13 kX) p1 a2 was5 changed6 f8 step9 k10 t16 t17 t18 t29 t30 t31 := by kernel_rfl
theorem zz59_iter13 (N : Nat) (kX : St → Option (Bool × (Y4 × Unit))) (kO : Nat → St → Option (Bool × (Y4 × Unit))) : ∀ (n : Nat) (p1 : Y4) (a2 : Y7) (was5 : Bool) (changed6 : Bool) (f8 : Y6) (step9 : Int) (k10 : Int) (t16 : (List Y6)) (t17 : Int) (t18 : Int) (t29 : Y4) (t30 : Int) (t31 : Int), zz59_R13 N n (zz59_E13 kX kO) p1 a2 was5 changed6 f8 step9 k10 t16 t17 t18 t29 t30 t31 = zz59_l13 N (zz59_X13 kX) n p1 a2 was5 changed6 f8 step9 k10 t16 t17 t18 t29 t30 t31
  | 0, _, _, _, _, _, _, _, _, _, _, _, _, _ => rfl
  | m + 1, p1, a2, was5, changed6, f8, step9, k10, t16, t17, t18, t29, t30, t31 => by
    have hrec : zz59_R13 N m (zz59_E13 kX kO) = (zz59_l13 N (zz59_X13 kX) m) := (funext fun p1 => (funext fun a2 => (funext fun was5 => (funext fun changed6 => (funext fun f8 => (funext fun step9 => (funext fun k10 => (funext fun t16 => (funext fun t17 => (funext fun t18 => (funext fun t29 => (funext fun t30 => (funext fun t31 => zz59_iter13 N kX kO m p1 a2 was5 changed6 f8 step9 k10 t16 t17 t18 t29 t30 t31)))))))))))))
    refine (zz59_step13 N m kX kO p1 a2 was5 changed6 f8 step9 k10 t16 t17 t18 t29 t30 t31).trans ?_
    rw [hrec]
    rfl
noncomputable abbrev zz59_K13 (N : Nat) (m : Nat) (kX : St → Option (Bool × (Y4 × Unit))) (kO : Nat → St → Option (Bool × (Y4 × Unit))) : Ex → St → Option (Bool × (Y4 × Unit)) := (blockK 6 (seqK ((A_zz59).shape 39) (run (A_zz59) N (codeAt Try.f100 [1, 1, 0, 1, 0, 0, 1, 0, 1, 1, 0, 0, 1, 1, 0, 0, 1, 1, 1, 0, 0, 1, 0, 0, 1])) (blockK 5 (seqK ((A_zz59).shape 23) (run (A_zz59) N (codeAt Try.f100 [1, 1, 0, 1, 0, 0, 1, 0, 1, 1, 0, 0, 1, 1, 0, 0, 1, 1, 1, 0, 0, 1, 1])) (iterK ((A_zz59).shape 20) (run (A_zz59) N (codeAt Try.f100 [1, 1, 0, 1, 0, 0, 1, 0, 1, 1, 0, 0, 1, 1, 0, 0, 1, 1, 1, 0, 0])) m (zz59_E10 kX kO))))))
noncomputable abbrev zz59_k13 (N : Nat) (m : Nat) (kX : St → Option (Bool × (Y4 × Unit))) (kO : Nat → St → Option (Bool × (Y4 × Unit))) : St → Option (Bool × (Y4 × Unit)) := fun st' => run (A_zz59) N (codeAt Try.f100 [1, 1, 0, 1, 0, 0, 1, 0, 1, 1, 0, 0, 1, 1, 0, 0, 1, 1, 1, 0, 0, 1, 0, 0, 1]) st' (blockK 5 (seqK ((A_zz59).shape 23) (run (A_zz59) N (codeAt Try.f100 [1, 1, 0, 1, 0, 0, 1, 0, 1, 1, 0, 0, 1, 1, 0, 0, 1, 1, 1, 0, 0, 1, 1])) (iterK ((A_zz59).shape 20) (run (A_zz59) N (codeAt Try.f100 [1, 1, 0, 1, 0, 0, 1, 0, 1, 1, 0, 0, 1, 1, 0, 0, 1, 1, 1, 0, 0])) m (zz59_E10 kX kO))))
theorem zz59_after13 (N : Nat) (m : Nat) (kX : St → Option (Bool × (Y4 × Unit))) (kO : Nat → St → Option (Bool × (Y4 × Unit))) (p1 : Y4) (a2 : Y7) (was5 : Bool) (changed6 : Bool) (f8 : Y6) (step9 : Int) (k10 : Int) (t16 : (List Y6)) (t17 : Int) (t18 : Int) : zz59_X13 (zz59_k13 N m kX kO) p1 a2 was5 changed6 f8 step9 k10 t16 t17 t18 = zz59_a13 (zz59_R10 N m (zz59_E10 kX kO)) p1 a2 was5 changed6 f8 step9 k10 t16 t17 t18 := by kernel_rfl
theorem zz59_in13 (N : Nat) (m : Nat) (kX : St → Option (Bool × (Y4 × Unit))) (kO : Nat → St → Option (Bool × (Y4 × Unit))) (recF : Y4 → Y7 → Bool → Bool → Y6 → Int → Int → (List Y6) → Int → Int → Option (Bool × (Y4 × Unit))) (hrec : zz59_R10 N m (zz59_E10 kX kO) = recF) (p1 : Y4) (a2 : Y7) (was5 : Bool) (changed6 : Bool) (f8 : Y6) (step9 : Int) (k10 : Int) (t16 : (List Y6)) (t17 : Int) (t18 : Int) (t29 : Y4) (t30 : Int) (t31 : Int) : zz59_R13 N N (zz59_K13 N m kX kO) p1 a2 was5 changed6 f8 step9 k10 t16 t17 t18 t29 t30 t31 = zz59_F13 N recF (zz59_X10 kX) p1 a2 was5 changed6 f8 step9 k10 t16 t17 t18 t29 t30 t31 :=
  have h : zz59_X13 (zz59_k13 N m kX kO) = (zz59_a13 recF) := (funext fun p1 => (funext fun a2 => (funext fun was5 => (funext fun changed6 => (funext fun f8 => (funext fun step9 => (funext fun k10 => (funext fun t16 => (funext fun t17 => (funext fun t18 => (zz59_after13 N m kX kO p1 a2 was5 changed6 f8 step9 k10 t16 t17 t18).trans (by rw [hrec])))))))))))
  ((iter_ex (fun st => by kernel_rfl) (fun st => by kernel_rfl)).trans (zz59_iter13 N (zz59_k13 N m kX kO) (fun j st => (zz59_K13 N m kX kO) (.exit j) st) N p1 a2 was5 changed6 f8 step9 k10 t16 t17 t18 t29 t30 t31)).trans (congrArg (fun k => zz59_l13 N k N p1 a2 was5 changed6 f8 step9 k10 t16 t17 t18 t29 t30 t31) h)
theorem zz59_step10 (N : Nat) (m : Nat) (kX : St → Option (Bool × (Y4 × Unit))) (kO : Nat → St → Option (Bool × (Y4 × Unit))) (p1 : Y4) (a2 : Y7) (was5 : Bool) (changed6 : Bool) (f8 : Y6) (step9 : Int) (k10 : Int) (t16 : (List Y6)) (t17 : Int) (t18 : Int) : zz59_R10 N (m + 1) (zz59_E10 kX kO) p1 a2 was5 changed6 f8 step9 k10 t16 t17 t18 = zz59_b10 (zz59_R13 N N (zz59_K13 N m kX kO)) (zz59_X10 kX) p1 a2 was5 changed6 f8 step9 k10 t16 t17 t18 := by kernel_rfl
theorem zz59_iter10 (N : Nat) (kX : St → Option (Bool × (Y4 × Unit))) (kO : Nat → St → Option (Bool × (Y4 × Unit))) : ∀ (n : Nat) (p1 : Y4) (a2 : Y7) (was5 : Bool) (changed6 : Bool) (f8 : Y6) (step9 : Int) (k10 : Int) (t16 : (List Y6)) (t17 : Int) (t18 : Int), zz59_R10 N n (zz59_E10 kX kO) p1 a2 was5 changed6 f8 step9 k10 t16 t17 t18 = zz59_l10 N (zz59_X10 kX) n p1 a2 was5 changed6 f8 step9 k10 t16 t17 t18
  | 0, _, _, _, _, _, _, _, _, _, _ => rfl
  | m + 1, p1, a2, was5, changed6, f8, step9, k10, t16, t17, t18 => by
    have hrec : zz59_R10 N m (zz59_E10 kX kO) = (zz59_l10 N (zz59_X10 kX) m) := (funext fun p1 => (funext fun a2 => (funext fun was5 => (funext fun changed6 => (funext fun f8 => (funext fun step9 => (funext fun k10 => (funext fun t16 => (funext fun t17 => (funext fun t18 => zz59_iter10 N kX kO m p1 a2 was5 changed6 f8 step9 k10 t16 t17 t18))))))))))
    refine (zz59_step10 N m kX kO p1 a2 was5 changed6 f8 step9 k10 t16 t17 t18).trans ?_
    rw [(funext fun p1 => (funext fun a2 => (funext fun was5 => (funext fun changed6 => (funext fun f8 => (funext fun step9 => (funext fun k10 => (funext fun t16 => (funext fun t17 => (funext fun t18 => (funext fun t29 => (funext fun t30 => (funext fun t31 => zz59_in13 N m kX kO (zz59_l10 N (zz59_X10 kX) m) hrec p1 a2 was5 changed6 f8 step9 k10 t16 t17 t18 t29 t30 t31)))))))))))))]
    rfl
noncomputable abbrev zz59_K10 (N : Nat) (m : Nat) (kX : St → Option (Bool × (Y4 × Unit))) (kO : Nat → St → Option (Bool × (Y4 × Unit))) : Ex → St → Option (Bool × (Y4 × Unit)) := (blockK 4 (blockK 3 (seqK ((A_zz59).shape 41) (run (A_zz59) N (codeAt Try.f100 [1, 1, 0, 1, 0, 0, 1, 0, 1, 1, 0, 0, 1, 1, 1])) (iterK ((A_zz59).shape 12) (run (A_zz59) N (codeAt Try.f100 [1, 1, 0, 1, 0, 0, 1, 0, 1, 1, 0, 0])) m (zz59_E6 kX kO)))))
noncomputable abbrev zz59_k10 (N : Nat) (m : Nat) (kX : St → Option (Bool × (Y4 × Unit))) (kO : Nat → St → Option (Bool × (Y4 × Unit))) : St → Option (Bool × (Y4 × Unit)) := fun st' => run (A_zz59) N (codeAt Try.f100 [1, 1, 0, 1, 0, 0, 1, 0, 1, 1, 0, 0, 1, 1, 1]) st' (iterK ((A_zz59).shape 12) (run (A_zz59) N (codeAt Try.f100 [1, 1, 0, 1, 0, 0, 1, 0, 1, 1, 0, 0])) m (zz59_E6 kX kO))
theorem zz59_after10 (N : Nat) (m : Nat) (kX : St → Option (Bool × (Y4 × Unit))) (kO : Nat → St → Option (Bool × (Y4 × Unit))) (p1 : Y4) (a2 : Y7) (was5 : Bool) (changed6 : Bool) (t16 : (List Y6)) (t17 : Int) (t18 : Int) : zz59_X10 (zz59_k10 N m kX kO) p1 a2 was5 changed6 t16 t17 t18 = zz59_a10 (zz59_R6 N m (zz59_E6 kX kO)) p1 a2 was5 changed6 t16 t17 t18 := by kernel_rfl
theorem zz59_in10 (N : Nat) (m : Nat) (kX : St → Option (Bool × (Y4 × Unit))) (kO : Nat → St → Option (Bool × (Y4 × Unit))) (recF : Y4 → Y7 → Bool → Bool → (List Y6) → Int → Int → Option (Bool × (Y4 × Unit))) (hrec : zz59_R6 N m (zz59_E6 kX kO) = recF) (p1 : Y4) (a2 : Y7) (was5 : Bool) (changed6 : Bool) (f8 : Y6) (step9 : Int) (k10 : Int) (t16 : (List Y6)) (t17 : Int) (t18 : Int) : zz59_R10 N N (zz59_K10 N m kX kO) p1 a2 was5 changed6 f8 step9 k10 t16 t17 t18 = zz59_F10 N recF (zz59_X6 kX) p1 a2 was5 changed6 f8 step9 k10 t16 t17 t18 :=
  have h : zz59_X10 (zz59_k10 N m kX kO) = (zz59_a10 recF) := (funext fun p1 => (funext fun a2 => (funext fun was5 => (funext fun changed6 => (funext fun t16 => (funext fun t17 => (funext fun t18 => (zz59_after10 N m kX kO p1 a2 was5 changed6 t16 t17 t18).trans (by rw [hrec]))))))))
  ((iter_ex (fun st => by kernel_rfl) (fun st => by kernel_rfl)).trans (zz59_iter10 N (zz59_k10 N m kX kO) (fun j st => (zz59_K10 N m kX kO) (.exit j) st) N p1 a2 was5 changed6 f8 step9 k10 t16 t17 t18)).trans (congrArg (fun k => zz59_l10 N k N p1 a2 was5 changed6 f8 step9 k10 t16 t17 t18) h)
theorem zz59_step6 (N : Nat) (m : Nat) (kX : St → Option (Bool × (Y4 × Unit))) (kO : Nat → St → Option (Bool × (Y4 × Unit))) (p1 : Y4) (a2 : Y7) (was5 : Bool) (changed6 : Bool) (t16 : (List Y6)) (t17 : Int) (t18 : Int) : zz59_R6 N (m + 1) (zz59_E6 kX kO) p1 a2 was5 changed6 t16 t17 t18 = zz59_b6 (zz59_R10 N N (zz59_K10 N m kX kO)) (zz59_X6 kX) p1 a2 was5 changed6 t16 t17 t18 := by kernel_rfl
theorem zz59_iter6 (N : Nat) (kX : St → Option (Bool × (Y4 × Unit))) (kO : Nat → St → Option (Bool × (Y4 × Unit))) : ∀ (n : Nat) (p1 : Y4) (a2 : Y7) (was5 : Bool) (changed6 : Bool) (t16 : (List Y6)) (t17 : Int) (t18 : Int), zz59_R6 N n (zz59_E6 kX kO) p1 a2 was5 changed6 t16 t17 t18 = zz59_l6 N (zz59_X6 kX) n p1 a2 was5 changed6 t16 t17 t18
  | 0, _, _, _, _, _, _, _ => rfl
  | m + 1, p1, a2, was5, changed6, t16, t17, t18 => by
    have hrec : zz59_R6 N m (zz59_E6 kX kO) = (zz59_l6 N (zz59_X6 kX) m) := (funext fun p1 => (funext fun a2 => (funext fun was5 => (funext fun changed6 => (funext fun t16 => (funext fun t17 => (funext fun t18 => zz59_iter6 N kX kO m p1 a2 was5 changed6 t16 t17 t18)))))))
    refine (zz59_step6 N m kX kO p1 a2 was5 changed6 t16 t17 t18).trans ?_
    rw [(funext fun p1 => (funext fun a2 => (funext fun was5 => (funext fun changed6 => (funext fun f8 => (funext fun step9 => (funext fun k10 => (funext fun t16 => (funext fun t17 => (funext fun t18 => zz59_in10 N m kX kO (zz59_l6 N (zz59_X6 kX) m) hrec p1 a2 was5 changed6 f8 step9 k10 t16 t17 t18))))))))))]
    rfl
noncomputable abbrev zz59_K6 (N : Nat) (m : Nat) (kX : St → Option (Bool × (Y4 × Unit))) (kO : Nat → St → Option (Bool × (Y4 × Unit))) : Ex → St → Option (Bool × (Y4 × Unit)) := (blockK 2 (blockK 1 (iterK ((A_zz59).shape 6) (run (A_zz59) N (codeAt Try.f100 [1, 1, 0, 1, 0, 0])) m (zz59_E3 kX kO))))
noncomputable abbrev zz59_k6 (N : Nat) (m : Nat) (kX : St → Option (Bool × (Y4 × Unit))) (kO : Nat → St → Option (Bool × (Y4 × Unit))) : St → Option (Bool × (Y4 × Unit)) := fun st' => iter ((A_zz59).shape 6) (run (A_zz59) N (codeAt Try.f100 [1, 1, 0, 1, 0, 0])) m st' (zz59_E3 kX kO)
theorem zz59_after6 (N : Nat) (m : Nat) (kX : St → Option (Bool × (Y4 × Unit))) (kO : Nat → St → Option (Bool × (Y4 × Unit))) (p1 : Y4) (a2 : Y7) (was5 : Bool) (changed6 : Bool) : zz59_X6 (zz59_k6 N m kX kO) p1 a2 was5 changed6 = zz59_a6 (zz59_R3 N m (zz59_E3 kX kO)) p1 a2 was5 changed6 := by kernel_rfl
theorem zz59_in6 (N : Nat) (m : Nat) (kX : St → Option (Bool × (Y4 × Unit))) (kO : Nat → St → Option (Bool × (Y4 × Unit))) (recF : Y4 → Y7 → Bool → Bool → Option (Bool × (Y4 × Unit))) (hrec : zz59_R3 N m (zz59_E3 kX kO) = recF) (p1 : Y4) (a2 : Y7) (was5 : Bool) (changed6 : Bool) (t16 : (List Y6)) (t17 : Int) (t18 : Int) : zz59_R6 N N (zz59_K6 N m kX kO) p1 a2 was5 changed6 t16 t17 t18 = zz59_F6 N recF (zz59_X3 kX) p1 a2 was5 changed6 t16 t17 t18 :=
  have h : zz59_X6 (zz59_k6 N m kX kO) = (zz59_a6 recF) := (funext fun p1 => (funext fun a2 => (funext fun was5 => (funext fun changed6 => (zz59_after6 N m kX kO p1 a2 was5 changed6).trans (by rw [hrec])))))
  ((iter_ex (fun st => by kernel_rfl) (fun st => by kernel_rfl)).trans (zz59_iter6 N (zz59_k6 N m kX kO) (fun j st => (zz59_K6 N m kX kO) (.exit j) st) N p1 a2 was5 changed6 t16 t17 t18)).trans (congrArg (fun k => zz59_l6 N k N p1 a2 was5 changed6 t16 t17 t18) h)
theorem zz59_step3 (N : Nat) (m : Nat) (kX : St → Option (Bool × (Y4 × Unit))) (kO : Nat → St → Option (Bool × (Y4 × Unit))) (p1 : Y4) (a2 : Y7) (was5 : Bool) (changed6 : Bool) : zz59_R3 N (m + 1) (zz59_E3 kX kO) p1 a2 was5 changed6 = zz59_b3 (zz59_R6 N N (zz59_K6 N m kX kO)) (zz59_X3 kX) p1 a2 was5 changed6 := by kernel_rfl
theorem zz59_iter3 (N : Nat) (kX : St → Option (Bool × (Y4 × Unit))) (kO : Nat → St → Option (Bool × (Y4 × Unit))) : ∀ (n : Nat) (p1 : Y4) (a2 : Y7) (was5 : Bool) (changed6 : Bool), zz59_R3 N n (zz59_E3 kX kO) p1 a2 was5 changed6 = zz59_l3 N (zz59_X3 kX) n p1 a2 was5 changed6
  | 0, _, _, _, _ => rfl
  | m + 1, p1, a2, was5, changed6 => by
    have hrec : zz59_R3 N m (zz59_E3 kX kO) = (zz59_l3 N (zz59_X3 kX) m) := (funext fun p1 => (funext fun a2 => (funext fun was5 => (funext fun changed6 => zz59_iter3 N kX kO m p1 a2 was5 changed6))))
    refine (zz59_step3 N m kX kO p1 a2 was5 changed6).trans ?_
    rw [(funext fun p1 => (funext fun a2 => (funext fun was5 => (funext fun changed6 => (funext fun t16 => (funext fun t17 => (funext fun t18 => zz59_in6 N m kX kO (zz59_l3 N (zz59_X3 kX) m) hrec p1 a2 was5 changed6 t16 t17 t18)))))))]
    rfl
noncomputable abbrev zz59_K3 (N : Nat) : Ex → St → Option (Bool × (Y4 × Unit)) := (blockK 0 (seqK ((A_zz59).shape 43) (run (A_zz59) N (codeAt Try.f100 [1, 1, 1])) zz59_z))
noncomputable abbrev zz59_k3 (N : Nat) : St → Option (Bool × (Y4 × Unit)) := fun st' => run (A_zz59) N (codeAt Try.f100 [1, 1, 1]) st' zz59_z
theorem zz59_after3 (N : Nat) (p1 : Y4) (was5 : Bool) : zz59_X3 (zz59_k3 N) p1 was5 = zz59_a3 p1 was5 := by kernel_rfl
theorem zz59_in3 (N : Nat) (p1 : Y4) (a2 : Y7) (was5 : Bool) (changed6 : Bool) : zz59_R3 N N (zz59_K3 N) p1 a2 was5 changed6 = zz59_F3 N p1 a2 was5 changed6 :=
  have h : zz59_X3 (zz59_k3 N) = (zz59_a3) := (funext fun p1 => (funext fun was5 => zz59_after3 N p1 was5))
  ((iter_ex (fun st => by kernel_rfl) (fun st => by kernel_rfl)).trans (zz59_iter3 N (zz59_k3 N) (fun j st => (zz59_K3 N) (.exit j) st) N p1 a2 was5 changed6)).trans (congrArg (fun k => zz59_l3 N k N p1 a2 was5 changed6) h)
theorem run0_zz59 (N : Nat) (x : (S_zz59).a.den) : runF (A_zz59) N Try.f100 S_zz59 x = (zz59_s (zz59_R3 N N (zz59_K3 N)) x.1 x.2.1) := by kernel_rfl
theorem run_zz59 (N : Nat) (x : (S_zz59).a.den) : runF (A_zz59) N Try.f100 S_zz59 x = zz59 N x.1 x.2.1 := by
  refine (run0_zz59 N x).trans ?_
  rw [(funext fun p1 => (funext fun a2 => (funext fun was5 => (funext fun changed6 => zz59_in3 N p1 a2 was5 changed6))))]
  rfl
theorem fn_zz59 : FnOk Try.prog 100 := ⟨_, Try.func100, by kernel_rfl, by kernel_rfl⟩
theorem good_zz59 : Gx.Good Try.prog 100 S_zz59 := good_of_run Try.func100 (of_decide_eq_true (by kernel_rfl)) fun x r h => ⟨A_zz59, big, mkCfg_ok tabOk, mkCfg_sigs (show SigsOk Try.prog [(140, S_zz58)] from ⟨⟨fn_zz58, good_zz58⟩, trivial⟩), (run_zz59 big x).trans h⟩

/-! zz60 -/
def zz60_b3 (rec : Y7 → Y4 → (List (Int × (Int × Unit))) → Int → Int → Option (Y4 × Unit)) (k : Y7 → Y4 → Option (Y4 × Unit)) (a2 : Y7) (p5 : Y4) (t11 : (List (Int × (Int × Unit)))) (t12 : Int) (t13 : Int) : Option (Y4 × Unit) :=
  cond (decide (t13 < t12))
  ((atI t11 t13).bind fun xq2 =>
  (zz58 big p5 xq2.1 xq2.2.1).bind fun rq3 =>
  rec a2 rq3.2.1 t11 t12 (IntKind.i64.wrap (t13 + (1 : Int))))
  (k a2 p5)
def zz60_a3 (a2 : Y7) (p5 : Y4) : Option (Y4 × Unit) :=
  (zz59 big a2 p5).bind fun rq4 =>
  some (rq4.2.1, (()))
def zz60_s (L3 : Y7 → Y4 → (List (Int × (Int × Unit))) → Int → Int → Option (Y4 × Unit)) (a_0 : Y7) (pairs_1 : (List (Int × (Int × Unit)))) : Option (Y4 × Unit) :=
  (zz57 big a_0.1).bind fun rq1 =>
  L3 a_0 rq1.1 pairs_1 (pairs_1.length : Int) (0 : Int)
def zz60_l3 (N : Nat) (k : Y7 → Y4 → Option (Y4 × Unit)) : Nat → Y7 → Y4 → (List (Int × (Int × Unit))) → Int → Int → Option (Y4 × Unit)
  | 0, _, _, _, _, _ => none
  | m + 1, a2, p5, t11, t12, t13 => zz60_b3 (zz60_l3 N k m) k a2 p5 t11 t12 t13
def zz60_F3 (N : Nat) (a2 : Y7) (p5 : Y4) (t11 : (List (Int × (Int × Unit)))) (t12 : Int) (t13 : Int) : Option (Y4 × Unit) := zz60_l3 N (zz60_a3) N a2 p5 t11 t12 t13
def zz60 (N : Nat) (a_0 : Y7) (pairs_1 : (List (Int × (Int × Unit)))) : Option (Y4 × Unit) := zz60_s (zz60_F3 N) a_0 pairs_1
def S_zz60 : Sig := { a := (.pair (.pair I (.pair (.sl (.pair I (.pair (.sl I) .unit))) .unit)) (.pair (.sl (.pair I (.pair I .unit))) .unit)), md := [0, 0], mf := [], m := .unit, r := (.sl I), rf := (.o .i), f := fun x => zz60 big x.1 x.2.1 }
def A_zz60 : Cfg := mkCfg tab [(144, S_zz57), (140, S_zz58), (100, S_zz59)] [(6, [.drop, .drop, .as (.ptr (.pair I (.pair (.sl (.pair I (.pair (.sl I) .unit))) .unit))) (.o .i), .drop, .drop, .as (.sl I) (.o .i), .drop, .drop, .drop, .drop, .drop, .as (.sl (.pair I (.pair I .unit))) .i, .as I .i, .as I .i]), (15, [.drop, .drop, .as (.ptr (.pair I (.pair (.sl (.pair I (.pair (.sl I) .unit))) .unit))) (.o .i), .drop, .drop, .as (.sl I) (.o .i)])]
noncomputable def zz60_R3 (N n : Nat) (K : Ex → St → Option (Y4 × Unit)) (a2 : Y7) (p5 : Y4) (t11 : (List (Int × (Int × Unit)))) (t12 : Int) (t13 : Int) : Option (Y4 × Unit) := iter ((A_zz60).shape 6) (run (A_zz60) N (codeAt Try.f119 [1, 1, 0, 1, 0, 0])) n ([.u, .u, .val (.ptr (.pair I (.pair (.sl (.pair I (.pair (.sl I) .unit))) .unit))) (.o .i) a2, .u, .u, .val (.sl I) (.o .i) p5, .u, .u, .u, .u, .u, .val (.sl (.pair I (.pair I .unit))) .i t11, .val I .i t12, .val I .i t13] ++ List.replicate 14 .u) K
noncomputable abbrev zz60_z : Ex → St → Option (Y4 × Unit) := finish (A_zz60) S_zz60 Try.f119.results.toList
noncomputable abbrev zz60_X3 (kX : St → Option (Y4 × Unit)) : Y7 → Y4 → Option (Y4 × Unit) := fun (a2 : Y7) (p5 : Y4) => kX ([.u, .u, .val (.ptr (.pair I (.pair (.sl (.pair I (.pair (.sl I) .unit))) .unit))) (.o .i) a2, .u, .u, .val (.sl I) (.o .i) p5] ++ List.replicate 22 .u)
noncomputable abbrev zz60_E3 (kX : St → Option (Y4 × Unit)) (kO : Nat → St → Option (Y4 × Unit)) : Ex → St → Option (Y4 × Unit) := exK zz60_z 0 ((A_zz60).shape 15) kX kO
theorem zz60_step3 (N : Nat) (m : Nat) (kX : St → Option (Y4 × Unit)) (kO : Nat → St → Option (Y4 × Unit)) (a2 : Y7) (p5 : Y4) (t11 : (List (Int × (Int × Unit)))) (t12 : Int) (t13 : Int) : zz60_R3 N (m + 1) (zz60_E3 kX kO) a2 p5 t11 t12 t13 = zz60_b3 (zz60_R3 N m (zz60_E3 kX kO)) (zz60_X3 kX) a2 p5 t11 t12 t13 := by kernel_rfl
theorem zz60_iter3 (N : Nat) (kX : St → Option (Y4 × Unit)) (kO : Nat → St → Option (Y4 × Unit)) : ∀ (n : Nat) (a2 : Y7) (p5 : Y4) (t11 : (List (Int × (Int × Unit)))) (t12 : Int) (t13 : Int), zz60_R3 N n (zz60_E3 kX kO) a2 p5 t11 t12 t13 = zz60_l3 N (zz60_X3 kX) n a2 p5 t11 t12 t13
  | 0, _, _, _, _, _ => rfl
  | m + 1, a2, p5, t11, t12, t13 => by
    have hrec : zz60_R3 N m (zz60_E3 kX kO) = (zz60_l3 N (zz60_X3 kX) m) := (funext fun a2 => (funext fun p5 => (funext fun t11 => (funext fun t12 => (funext fun t13 => zz60_iter3 N kX kO m a2 p5 t11 t12 t13)))))
    refine (zz60_step3 N m kX kO a2 p5 t11 t12 t13).trans ?_
    rw [hrec]
    rfl
noncomputable abbrev zz60_K3 (N : Nat) : Ex → St → Option (Y4 × Unit) := (blockK 0 (seqK ((A_zz60).shape 15) (run (A_zz60) N (codeAt Try.f119 [1, 1, 1])) zz60_z))
noncomputable abbrev zz60_k3 (N : Nat) : St → Option (Y4 × Unit) := fun st' => run (A_zz60) N (codeAt Try.f119 [1, 1, 1]) st' zz60_z
theorem zz60_after3 (N : Nat) (a2 : Y7) (p5 : Y4) : zz60_X3 (zz60_k3 N) a2 p5 = zz60_a3 a2 p5 := by kernel_rfl
theorem zz60_in3 (N : Nat) (a2 : Y7) (p5 : Y4) (t11 : (List (Int × (Int × Unit)))) (t12 : Int) (t13 : Int) : zz60_R3 N N (zz60_K3 N) a2 p5 t11 t12 t13 = zz60_F3 N a2 p5 t11 t12 t13 :=
  have h : zz60_X3 (zz60_k3 N) = (zz60_a3) := (funext fun a2 => (funext fun p5 => zz60_after3 N a2 p5))
  ((iter_ex (fun st => by kernel_rfl) (fun st => by kernel_rfl)).trans (zz60_iter3 N (zz60_k3 N) (fun j st => (zz60_K3 N) (.exit j) st) N a2 p5 t11 t12 t13)).trans (congrArg (fun k => zz60_l3 N k N a2 p5 t11 t12 t13) h)
theorem run0_zz60 (N : Nat) (x : (S_zz60).a.den) : runF (A_zz60) N Try.f119 S_zz60 x = (zz60_s (zz60_R3 N N (zz60_K3 N)) x.1 x.2.1) := by kernel_rfl
theorem run_zz60 (N : Nat) (x : (S_zz60).a.den) : runF (A_zz60) N Try.f119 S_zz60 x = zz60 N x.1 x.2.1 := by
  refine (run0_zz60 N x).trans ?_
  rw [(funext fun a2 => (funext fun p5 => (funext fun t11 => (funext fun t12 => (funext fun t13 => zz60_in3 N a2 p5 t11 t12 t13)))))]
  rfl
theorem fn_zz60 : FnOk Try.prog 119 := ⟨_, Try.func119, by kernel_rfl, by kernel_rfl⟩
theorem good_zz60 : Gx.Good Try.prog 119 S_zz60 := good_of_run Try.func119 (of_decide_eq_true (by kernel_rfl)) fun x r h => ⟨A_zz60, big, mkCfg_ok tabOk, mkCfg_sigs (show SigsOk Try.prog [(144, S_zz57), (140, S_zz58), (100, S_zz59)] from ⟨⟨fn_zz57, good_zz57⟩, ⟨fn_zz58, good_zz58⟩, ⟨fn_zz59, good_zz59⟩, trivial⟩), (run_zz60 big x).trans h⟩

/-! zz61 -/
def zz61_b3 (rec : Y1 → (List (Int × (Int × Unit))) → Y4 → Int → Int → Option (Y4 × Unit)) (k : Y1 → (List (Int × (Int × Unit))) → Option (Y4 × Unit)) (l0 : Y1) (pairs5 : (List (Int × (Int × Unit)))) (t9 : Y4) (t10 : Int) (t11 : Int) : Option (Y4 × Unit) :=
  cond (decide (t11 < t10))
  ((atI t9 t11).bind fun xq1 =>
  (zz54 l0 xq1).bind fun rq2 =>
  (appI pairs5 [(rq2.1, (xq1, ()))]).bind fun xq3 =>
  rec l0 xq3 t9 t10 (IntKind.i64.wrap (t11 + (1 : Int))))
  (k l0 pairs5)
def zz61_a3 (l0 : Y1) (pairs5 : (List (Int × (Int × Unit)))) : Option (Y4 × Unit) :=
  (zz56 l0).bind fun rq4 =>
  (zz60 big rq4.1 pairs5).bind fun rq5 =>
  some (rq5.1, (()))
def zz61_s (L3 : Y1 → (List (Int × (Int × Unit))) → Y4 → Int → Int → Option (Y4 × Unit)) (l_0 : Y1) (set_1 : Y4) : Option (Y4 × Unit) :=
  L3 l_0 [] set_1 (set_1.length : Int) (0 : Int)
def zz61_l3 (N : Nat) (k : Y1 → (List (Int × (Int × Unit))) → Option (Y4 × Unit)) : Nat → Y1 → (List (Int × (Int × Unit))) → Y4 → Int → Int → Option (Y4 × Unit)
  | 0, _, _, _, _, _ => none
  | m + 1, l0, pairs5, t9, t10, t11 => zz61_b3 (zz61_l3 N k m) k l0 pairs5 t9 t10 t11
def zz61_F3 (N : Nat) (l0 : Y1) (pairs5 : (List (Int × (Int × Unit)))) (t9 : Y4) (t10 : Int) (t11 : Int) : Option (Y4 × Unit) := zz61_l3 N (zz61_a3) N l0 pairs5 t9 t10 t11
def zz61 (N : Nat) (l_0 : Y1) (set_1 : Y4) : Option (Y4 × Unit) := zz61_s (zz61_F3 N) l_0 set_1
def S_zz61 : Sig := { a := (.pair (.opt (.pair (.sl (.sl .bool)) (.pair (.sl (.sl I)) (.pair (.sl (.sl I)) .unit)))) (.pair (.sl I) .unit)), md := [0, 0], mf := [], m := .unit, r := (.sl I), rf := (.o .i), f := fun x => zz61 big x.1 x.2.1 }
def A_zz61 : Cfg := mkCfg tab [(102, S_zz54), (59, S_zz56), (119, S_zz60)] [(6, [.as (.opt (.pair (.sl (.sl .bool)) (.pair (.sl (.sl I)) (.pair (.sl (.sl I)) .unit)))) .i, .drop, .drop, .drop, .drop, .as (.sl (.pair I (.pair I .unit))) (.o .i), .drop, .drop, .drop, .as (.sl I) .i, .as I .i, .as I .i]), (15, [.as (.opt (.pair (.sl (.sl .bool)) (.pair (.sl (.sl I)) (.pair (.sl (.sl I)) .unit)))) .i, .drop, .drop, .drop, .drop, .as (.sl (.pair I (.pair I .unit))) (.o .i)])]
noncomputable def zz61_R3 (N n : Nat) (K : Ex → St → Option (Y4 × Unit)) (l0 : Y1) (pairs5 : (List (Int × (Int × Unit)))) (t9 : Y4) (t10 : Int) (t11 : Int) : Option (Y4 × Unit) := iter ((A_zz61).shape 6) (run (A_zz61) N (codeAt Try.f77 [1, 1, 0, 1, 0, 0])) n ([.val (.opt (.pair (.sl (.sl .bool)) (.pair (.sl (.sl I)) (.pair (.sl (.sl I)) .unit)))) .i l0, .u, .u, .u, .u, .val (.sl (.pair I (.pair I .unit))) (.o .i) pairs5, .u, .u, .u, .val (.sl I) .i t9, .val I .i t10, .val I .i t11] ++ List.replicate 16 .u) K
noncomputable abbrev zz61_z : Ex → St → Option (Y4 × Unit) := finish (A_zz61) S_zz61 Try.f77.results.toList
noncomputable abbrev zz61_X3 (kX : St → Option (Y4 × Unit)) : Y1 → (List (Int × (Int × Unit))) → Option (Y4 × Unit) := fun (l0 : Y1) (pairs5 : (List (Int × (Int × Unit)))) => kX ([.val (.opt (.pair (.sl (.sl .bool)) (.pair (.sl (.sl I)) (.pair (.sl (.sl I)) .unit)))) .i l0, .u, .u, .u, .u, .val (.sl (.pair I (.pair I .unit))) (.o .i) pairs5] ++ List.replicate 22 .u)
noncomputable abbrev zz61_E3 (kX : St → Option (Y4 × Unit)) (kO : Nat → St → Option (Y4 × Unit)) : Ex → St → Option (Y4 × Unit) := exK zz61_z 0 ((A_zz61).shape 15) kX kO
theorem zz61_step3 (N : Nat) (m : Nat) (kX : St → Option (Y4 × Unit)) (kO : Nat → St → Option (Y4 × Unit)) (l0 : Y1) (pairs5 : (List (Int × (Int × Unit)))) (t9 : Y4) (t10 : Int) (t11 : Int) : zz61_R3 N (m + 1) (zz61_E3 kX kO) l0 pairs5 t9 t10 t11 = zz61_b3 (zz61_R3 N m (zz61_E3 kX kO)) (zz61_X3 kX) l0 pairs5 t9 t10 t11 := by kernel_rfl
theorem zz61_iter3 (N : Nat) (kX : St → Option (Y4 × Unit)) (kO : Nat → St → Option (Y4 × Unit)) : ∀ (n : Nat) (l0 : Y1) (pairs5 : (List (Int × (Int × Unit)))) (t9 : Y4) (t10 : Int) (t11 : Int), zz61_R3 N n (zz61_E3 kX kO) l0 pairs5 t9 t10 t11 = zz61_l3 N (zz61_X3 kX) n l0 pairs5 t9 t10 t11
  | 0, _, _, _, _, _ => rfl
  | m + 1, l0, pairs5, t9, t10, t11 => by
    have hrec : zz61_R3 N m (zz61_E3 kX kO) = (zz61_l3 N (zz61_X3 kX) m) := (funext fun l0 => (funext fun pairs5 => (funext fun t9 => (funext fun t10 => (funext fun t11 => zz61_iter3 N kX kO m l0 pairs5 t9 t10 t11)))))
    refine (zz61_step3 N m kX kO l0 pairs5 t9 t10 t11).trans ?_
    rw [hrec]
    rfl
noncomputable abbrev zz61_K3 (N : Nat) : Ex → St → Option (Y4 × Unit) := (blockK 0 (seqK ((A_zz61).shape 15) (run (A_zz61) N (codeAt Try.f77 [1, 1, 1])) zz61_z))
noncomputable abbrev zz61_k3 (N : Nat) : St → Option (Y4 × Unit) := fun st' => run (A_zz61) N (codeAt Try.f77 [1, 1, 1]) st' zz61_z
theorem zz61_after3 (N : Nat) (l0 : Y1) (pairs5 : (List (Int × (Int × Unit)))) : zz61_X3 (zz61_k3 N) l0 pairs5 = zz61_a3 l0 pairs5 := by kernel_rfl
theorem zz61_in3 (N : Nat) (l0 : Y1) (pairs5 : (List (Int × (Int × Unit)))) (t9 : Y4) (t10 : Int) (t11 : Int) : zz61_R3 N N (zz61_K3 N) l0 pairs5 t9 t10 t11 = zz61_F3 N l0 pairs5 t9 t10 t11 :=
  have h : zz61_X3 (zz61_k3 N) = (zz61_a3) := (funext fun l0 => (funext fun pairs5 => zz61_after3 N l0 pairs5))
  ((iter_ex (fun st => by kernel_rfl) (fun st => by kernel_rfl)).trans (zz61_iter3 N (zz61_k3 N) (fun j st => (zz61_K3 N) (.exit j) st) N l0 pairs5 t9 t10 t11)).trans (congrArg (fun k => zz61_l3 N k N l0 pairs5 t9 t10 t11) h)
theorem run0_zz61 (N : Nat) (x : (S_zz61).a.den) : runF (A_zz61) N Try.f77 S_zz61 x = (zz61_s (zz61_R3 N N (zz61_K3 N)) x.1 x.2.1) := by kernel_rfl
theorem run_zz61 (N : Nat) (x : (S_zz61).a.den) : runF (A_zz61) N Try.f77 S_zz61 x = zz61 N x.1 x.2.1 := by
  refine (run0_zz61 N x).trans ?_
  rw [(funext fun l0 => (funext fun pairs5 => (funext fun t9 => (funext fun t10 => (funext fun t11 => zz61_in3 N l0 pairs5 t9 t10 t11)))))]
  rfl
theorem fn_zz61 : FnOk Try.prog 77 := ⟨_, Try.func77, by kernel_rfl, by kernel_rfl⟩
theorem good_zz61 : Gx.Good Try.prog 77 S_zz61 := good_of_run Try.func77 (of_decide_eq_true (by kernel_rfl)) fun x r h => ⟨A_zz61, big, mkCfg_ok tabOk, mkCfg_sigs (show SigsOk Try.prog [(102, S_zz54), (59, S_zz56), (119, S_zz60)] from ⟨⟨fn_zz54, good_zz54⟩, ⟨fn_zz56, good_zz56⟩, ⟨fn_zz60, good_zz60⟩, trivial⟩), (run_zz61 big x).trans h⟩

/-! zz62 -/
def zz62_s (x_0 : Int) (p_1 : Y1) : Option (Bool × Unit) :=
  (p_1).bind fun xq1 =>
  (zz52 xq1.1 x_0).bind fun rq2 =>
  some (decide ((rq2.1.length : Int) = (1 : Int)), (()))
def zz62 (x_0 : Int) (p_1 : Y1) : Option (Bool × Unit) := zz62_s x_0 p_1
def S_zz62 : Sig := { a := (.pair I (.pair (.ptr (.opt (.pair (.sl (.sl .bool)) (.pair (.sl (.sl I)) (.pair (.sl (.sl I)) .unit))))) .unit)), md := [0, 0], mf := [], m := .unit, r := .bool, rf := .i, f := fun x => zz62 x.1 x.2.1 }
def A_zz62 : Cfg := mkCfg tab [(93, S_zz52)] []
theorem run_zz62 (N : Nat) (x : (S_zz62).a.den) : runF (A_zz62) N Try.f105 S_zz62 x = zz62 x.1 x.2.1 := by kernel_rfl
theorem fn_zz62 : FnOk Try.prog 105 := ⟨_, Try.func105, by kernel_rfl, by kernel_rfl⟩
theorem good_zz62 : Gx.Good Try.prog 105 S_zz62 := good_of_run Try.func105 (of_decide_eq_true (by kernel_rfl)) fun x r h => ⟨A_zz62, big, mkCfg_ok tabOk, mkCfg_sigs (show SigsOk Try.prog [(93, S_zz52)] from ⟨⟨fn_zz52, good_zz52⟩, trivial⟩), (run_zz62 big x).trans h⟩

/-! zz63 -/
def zz63_b3 (rec : (Y1 × Unit) → Y4 → Int → Int → Option (Y4 × Unit)) (k : Y4 → Option (Y4 × Unit)) (so1 : (Y1 × Unit)) (list5 : Y4) (t9 : Int) (t10 : Int) : Option (Y4 × Unit) :=
  cond (decide (t10 < t9))
  ((zz62 t10 so1.1).bind fun rq1 =>
  cond rq1.1
  ((appI list5 [t10]).bind fun xq2 =>
  rec so1 xq2 t9 (IntKind.i64.wrap (t10 + (1 : Int))))
  (rec so1 list5 t9 (IntKind.i64.wrap (t10 + (1 : Int)))))
  (k list5)
def zz63_a3 (list5 : Y4) : Option (Y4 × Unit) :=
  some (list5, (()))
def zz63_s (L3 : (Y1 × Unit) → Y4 → Int → Int → Option (Y4 × Unit)) (o_0 : Y5) (so_1 : (Y1 × Unit)) : Option (Y4 × Unit) :=
  L3 so_1 [] (o_0.length : Int) (0 : Int)
def zz63_l3 (N : Nat) (k : Y4 → Option (Y4 × Unit)) : Nat → (Y1 × Unit) → Y4 → Int → Int → Option (Y4 × Unit)
  | 0, _, _, _, _ => none
  | m + 1, so1, list5, t9, t10 => zz63_b3 (zz63_l3 N k m) k so1 list5 t9 t10
def zz63_F3 (N : Nat) (so1 : (Y1 × Unit)) (list5 : Y4) (t9 : Int) (t10 : Int) : Option (Y4 × Unit) := zz63_l3 N (zz63_a3) N so1 list5 t9 t10
def zz63 (N : Nat) (o_0 : Y5) (so_1 : (Y1 × Unit)) : Option (Y4 × Unit) := zz63_s (zz63_F3 N) o_0 so_1
def S_zz63 : Sig := { a := (.pair (.sl (.sl .bool)) (.pair (.clo 105 0 (.pair (.ptr (.opt (.pair (.sl (.sl .bool)) (.pair (.sl (.sl I)) (.pair (.sl (.sl I)) .unit))))) .unit)) .unit)), md := [0, 0], mf := [], m := .unit, r := (.sl I), rf := (.o .i), f := fun x => zz63 big x.1 x.2.1 }
def A_zz63 : Cfg := mkCfg tab [(105, S_zz62)] [(6, [.drop, .as (.clo 105 0 (.pair (.ptr (.opt (.pair (.sl (.sl .bool)) (.pair (.sl (.sl I)) (.pair (.sl (.sl I)) .unit))))) .unit)) .i, .drop, .drop, .drop, .as (.sl I) (.o .i), .drop, .drop, .drop, .as I .i, .as I .i]), (17, [.drop, .drop, .drop, .drop, .drop, .as (.sl I) (.o .i)])]
noncomputable def zz63_R3 (N n : Nat) (K : Ex → St → Option (Y4 × Unit)) (so1 : (Y1 × Unit)) (list5 : Y4) (t9 : Int) (t10 : Int) : Option (Y4 × Unit) := iter ((A_zz63).shape 6) (run (A_zz63) N (codeAt Try.f104 [1, 1, 0, 1, 0, 0])) n ([.u, .val (.clo 105 0 (.pair (.ptr (.opt (.pair (.sl (.sl .bool)) (.pair (.sl (.sl I)) (.pair (.sl (.sl I)) .unit))))) .unit)) .i so1, .u, .u, .u, .val (.sl I) (.o .i) list5, .u, .u, .u, .val I .i t9, .val I .i t10] ++ List.replicate 11 .u) K
noncomputable abbrev zz63_z : Ex → St → Option (Y4 × Unit) := finish (A_zz63) S_zz63 Try.f104.results.toList
noncomputable abbrev zz63_X3 (kX : St → Option (Y4 × Unit)) : Y4 → Option (Y4 × Unit) := fun (list5 : Y4) => kX ([.u, .u, .u, .u, .u, .val (.sl I) (.o .i) list5] ++ List.replicate 16 .u)
noncomputable abbrev zz63_E3 (kX : St → Option (Y4 × Unit)) (kO : Nat → St → Option (Y4 × Unit)) : Ex → St → Option (Y4 × Unit) := exK zz63_z 0 ((A_zz63).shape 17) kX kO
theorem zz63_step3 (N : Nat) (m : Nat) (kX : St → Option (Y4 × Unit)) (kO : Nat → St → Option (Y4 × Unit)) (so1 : (Y1 × Unit)) (list5 : Y4) (t9 : Int) (t10 : Int) : zz63_R3 N (m + 1) (zz63_E3 kX kO) so1 list5 t9 t10 = zz63_b3 (zz63_R3 N m (zz63_E3 kX kO)) (zz63_X3 kX) so1 list5 t9 t10 := by kernel_rfl
theorem zz63_iter3 (N : Nat) (kX : St → Option (Y4 × Unit)) (kO : Nat → St → Option (Y4 × Unit)) : ∀ (n : Nat) (so1 : (Y1 × Unit)) (list5 : Y4) (t9 : Int) (t10 : Int), zz63_R3 N n (zz63_E3 kX kO) so1 list5 t9 t10 = zz63_l3 N (zz63_X3 kX) n so1 list5 t9 t10
  | 0, _, _, _, _ => rfl
  | m + 1, so1, list5, t9, t10 => by
    have hrec : zz63_R3 N m (zz63_E3 kX kO) = (zz63_l3 N (zz63_X3 kX) m) := (funext fun so1 => (funext fun list5 => (funext fun t9 => (funext fun t10 => zz63_iter3 N kX kO m so1 list5 t9 t10))))
    refine (zz63_step3 N m kX kO so1 list5 t9 t10).trans ?_
    rw [hrec]
    rfl
noncomputable abbrev zz63_K3 (N : Nat) : Ex → St → Option (Y4 × Unit) := (blockK 0 (seqK ((A_zz63).shape 17) (run (A_zz63) N (codeAt Try.f104 [1, 1, 1])) zz63_z))
noncomputable abbrev zz63_k3 (N : Nat) : St → Option (Y4 × Unit) := fun st' => run (A_zz63) N (codeAt Try.f104 [1, 1, 1]) st' zz63_z
theorem zz63_after3 (N : Nat) (list5 : Y4) : zz63_X3 (zz63_k3 N) list5 = zz63_a3 list5 := by kernel_rfl
theorem zz63_in3 (N : Nat) (so1 : (Y1 × Unit)) (list5 : Y4) (t9 : Int) (t10 : Int) : zz63_R3 N N (zz63_K3 N) so1 list5 t9 t10 = zz63_F3 N so1 list5 t9 t10 :=
  have h : zz63_X3 (zz63_k3 N) = (zz63_a3) := (funext fun list5 => zz63_after3 N list5)
  ((iter_ex (fun st => by kernel_rfl) (fun st => by kernel_rfl)).trans (zz63_iter3 N (zz63_k3 N) (fun j st => (zz63_K3 N) (.exit j) st) N so1 list5 t9 t10)).trans (congrArg (fun k => zz63_l3 N k N so1 list5 t9 t10) h)
theorem run0_zz63 (N : Nat) (x : (S_zz63).a.den) : runF (A_zz63) N Try.f104 S_zz63 x = (zz63_s (zz63_R3 N N (zz63_K3 N)) x.1 x.2.1) := by kernel_rfl
theorem run_zz63 (N : Nat) (x : (S_zz63).a.den) : runF (A_zz63) N Try.f104 S_zz63 x = zz63 N x.1 x.2.1 := by
  refine (run0_zz63 N x).trans ?_
  rw [(funext fun so1 => (funext fun list5 => (funext fun t9 => (funext fun t10 => zz63_in3 N so1 list5 t9 t10))))]
  rfl
theorem fn_zz63 : FnOk Try.prog 104 := ⟨_, Try.func104, by kernel_rfl, by kernel_rfl⟩
theorem good_zz63 : Gx.Good Try.prog 104 S_zz63 := good_of_run Try.func104 (of_decide_eq_true (by kernel_rfl)) fun x r h => ⟨A_zz63, big, mkCfg_ok tabOk, mkCfg_sigs (show SigsOk Try.prog [(105, S_zz62)] from ⟨⟨fn_zz62, good_zz62⟩, trivial⟩), (run_zz63 big x).trans h⟩

/-! zz64 -/
def zz64_s (l_0 : Y1) : Option (Y4 × Unit) :=
  (l_0).bind fun xq1 =>
  (zz63 big xq1.1 (l_0, ())).bind fun rq2 =>
  some (rq2.1, (()))
def zz64 (l_0 : Y1) : Option (Y4 × Unit) := zz64_s l_0
def S_zz64 : Sig := { a := (.pair (.opt (.pair (.sl (.sl .bool)) (.pair (.sl (.sl I)) (.pair (.sl (.sl I)) .unit)))) .unit), md := [0], mf := [], m := .unit, r := (.sl I), rf := (.o .i), f := fun x => zz64 x.1 }
def A_zz64 : Cfg := mkCfg tab [(104, S_zz63)] [(3, [.drop, .as (.ptr (.opt (.pair (.sl (.sl .bool)) (.pair (.sl (.sl I)) (.pair (.sl (.sl I)) .unit))))) .i])]
theorem run_zz64 (N : Nat) (x : (S_zz64).a.den) : runF (A_zz64) N Try.f62 S_zz64 x = zz64 x.1 := by kernel_rfl
theorem fn_zz64 : FnOk Try.prog 62 := ⟨_, Try.func62, by kernel_rfl, by kernel_rfl⟩
theorem good_zz64 : Gx.Good Try.prog 62 S_zz64 := good_of_run Try.func62 (of_decide_eq_true (by kernel_rfl)) fun x r h => ⟨A_zz64, big, mkCfg_ok tabOk, mkCfg_sigs (show SigsOk Try.prog [(104, S_zz63)] from ⟨⟨fn_zz63, good_zz63⟩, trivial⟩), (run_zz64 big x).trans h⟩

/-! zz65 -/
def zz65_b3 (rec : Y1 → Y4 → Y4 → Y4 → Int → Int → Option (Y4 × Unit)) (k : Y4 → Option (Y4 × Unit)) (l0 : Y1) (c1 : Y4) (list5 : Y4) (t10 : Y4) (t11 : Int) (t12 : Int) : Option (Y4 × Unit) :=
  cond (decide (t12 < t11))
  ((atI t10 t12).bind fun _ =>
  (t10[t12.toNat]?).bind fun xq2 =>
  (atI c1 xq2).bind fun xq3 =>
  (zz54 l0 xq2).bind fun rq4 =>
  (atI c1 rq4.1).bind fun xq5 =>
  cond (decide (xq3 = xq5))
  ((appI list5 [xq2]).bind fun xq6 =>
  rec l0 c1 xq6 t10 t11 (IntKind.i64.wrap (t12 + (1 : Int))))
  (rec l0 c1 list5 t10 t11 (IntKind.i64.wrap (t12 + (1 : Int)))))
  (k list5)
def zz65_a3 (list5 : Y4) : Option (Y4 × Unit) :=
  some (list5, (()))
def zz65_s (L3 : Y1 → Y4 → Y4 → Y4 → Int → Int → Option (Y4 × Unit)) (l_0 : Y1) (c_1 : Y4) : Option (Y4 × Unit) :=
  (zz64 l_0).bind fun rq1 =>
  L3 l_0 c_1 [] rq1.1 (rq1.1.length : Int) (0 : Int)
def zz65_l3 (N : Nat) (k : Y4 → Option (Y4 × Unit)) : Nat → Y1 → Y4 → Y4 → Y4 → Int → Int → Option (Y4 × Unit)
  | 0, _, _, _, _, _, _ => none
  | m + 1, l0, c1, list5, t10, t11, t12 => zz65_b3 (zz65_l3 N k m) k l0 c1 list5 t10 t11 t12
def zz65_F3 (N : Nat) (l0 : Y1) (c1 : Y4) (list5 : Y4) (t10 : Y4) (t11 : Int) (t12 : Int) : Option (Y4 × Unit) := zz65_l3 N (zz65_a3) N l0 c1 list5 t10 t11 t12
def zz65 (N : Nat) (l_0 : Y1) (c_1 : Y4) : Option (Y4 × Unit) := zz65_s (zz65_F3 N) l_0 c_1
def S_zz65 : Sig := { a := (.pair (.opt (.pair (.sl (.sl .bool)) (.pair (.sl (.sl I)) (.pair (.sl (.sl I)) .unit)))) (.pair (.sl I) .unit)), md := [0, 0], mf := [], m := .unit, r := (.sl I), rf := (.o .i), f := fun x => zz65 big x.1 x.2.1 }
def A_zz65 : Cfg := mkCfg tab [(62, S_zz64), (102, S_zz54)] [(6, [.as (.opt (.pair (.sl (.sl .bool)) (.pair (.sl (.sl I)) (.pair (.sl (.sl I)) .unit)))) .i, .as (.sl I) .i, .drop, .drop, .drop, .as (.sl I) (.o .i), .drop, .drop, .drop, .drop, .as (.sl I) (.o .i), .as I .i, .as I .i]), (17, [.drop, .drop, .drop, .drop, .drop, .as (.sl I) (.o .i)])]
noncomputable def zz65_R3 (N n : Nat) (K : Ex → St → Option (Y4 × Unit)) (l0 : Y1) (c1 : Y4) (list5 : Y4) (t10 : Y4) (t11 : Int) (t12 : Int) : Option (Y4 × Unit) := iter ((A_zz65).shape 6) (run (A_zz65) N (codeAt Try.f60 [1, 1, 0, 1, 0, 0])) n ([.val (.opt (.pair (.sl (.sl .bool)) (.pair (.sl (.sl I)) (.pair (.sl (.sl I)) .unit)))) .i l0, .val (.sl I) .i c1, .u, .u, .u, .val (.sl I) (.o .i) list5, .u, .u, .u, .u, .val (.sl I) (.o .i) t10, .val I .i t11, .val I .i t12] ++ List.replicate 20 .u) K
noncomputable abbrev zz65_z : Ex → St → Option (Y4 × Unit) := finish (A_zz65) S_zz65 Try.f60.results.toList
noncomputable abbrev zz65_X3 (kX : St → Option (Y4 × Unit)) : Y4 → Option (Y4 × Unit) := fun (list5 : Y4) => kX ([.u, .u, .u, .u, .u, .val (.sl I) (.o .i) list5] ++ List.replicate 27 .u)
noncomputable abbrev zz65_E3 (kX : St → Option (Y4 × Unit)) (kO : Nat → St → Option (Y4 × Unit)) : Ex → St → Option (Y4 × Unit) := exK zz65_z 0 ((A_zz65).shape 17) kX kO
theorem zz65_step3 (N : Nat) (m : Nat) (kX : St → Option (Y4 × Unit)) (kO : Nat → St → Option (Y4 × Unit)) (l0 : Y1) (c1 : Y4) (list5 : Y4) (t10 : Y4) (t11 : Int) (t12 : Int) : zz65_R3 N (m + 1) (zz65_E3 kX kO) l0 c1 list5 t10 t11 t12 = zz65_b3 (zz65_R3 N m (zz65_E3 kX kO)) (zz65_X3 kX) l0 c1 list5 t10 t11 t12 := by kernel_rfl
theorem zz65_iter3 (N : Nat) (kX : St → Option (Y4 × Unit)) (kO : Nat → St → Option (Y4 × Unit)) : ∀ (n : Nat) (l0 : Y1) (c1 : Y4) (list5 : Y4) (t10 : Y4) (t11 : Int) (t12 : Int), zz65_R3 N n (zz65_E3 kX kO) l0 c1 list5 t10 t11 t12 = zz65_l3 N (zz65_X3 kX) n l0 c1 list5 t10 t11 t12
  | 0, _, _, _, _, _, _ => rfl
  | m + 1, l0, c1, list5, t10, t11, t12 => by
    have hrec : zz65_R3 N m (zz65_E3 kX kO) = (zz65_l3 N (zz65_X3 kX) m) := (funext fun l0 => (funext fun c1 => (funext fun list5 => (funext fun t10 => (funext fun t11 => (funext fun t12 => zz65_iter3 N kX kO m l0 c1 list5 t10 t11 t12))))))
    refine (zz65_step3 N m kX kO l0 c1 list5 t10 t11 t12).trans ?_
    rw [hrec]
    rfl
noncomputable abbrev zz65_K3 (N : Nat) : Ex → St → Option (Y4 × Unit) := (blockK 0 (seqK ((A_zz65).shape 17) (run (A_zz65) N (codeAt Try.f60 [1, 1, 1])) zz65_z))
noncomputable abbrev zz65_k3 (N : Nat) : St → Option (Y4 × Unit) := fun st' => run (A_zz65) N (codeAt Try.f60 [1, 1, 1]) st' zz65_z
theorem zz65_after3 (N : Nat) (list5 : Y4) : zz65_X3 (zz65_k3 N) list5 = zz65_a3 list5 := by kernel_rfl
theorem zz65_in3 (N : Nat) (l0 : Y1) (c1 : Y4) (list5 : Y4) (t10 : Y4) (t11 : Int) (t12 : Int) : zz65_R3 N N (zz65_K3 N) l0 c1 list5 t10 t11 t12 = zz65_F3 N l0 c1 list5 t10 t11 t12 :=
  have h : zz65_X3 (zz65_k3 N) = (zz65_a3) := (funext fun list5 => zz65_after3 N list5)
  ((iter_ex (fun st => by kernel_rfl) (fun st => by kernel_rfl)).trans (zz65_iter3 N (zz65_k3 N) (fun j st => (zz65_K3 N) (.exit j) st) N l0 c1 list5 t10 t11 t12)).trans (congrArg (fun k => zz65_l3 N k N l0 c1 list5 t10 t11 t12) h)
theorem run0_zz65 (N : Nat) (x : (S_zz65).a.den) : runF (A_zz65) N Try.f60 S_zz65 x = (zz65_s (zz65_R3 N N (zz65_K3 N)) x.1 x.2.1) := by kernel_rfl
theorem run_zz65 (N : Nat) (x : (S_zz65).a.den) : runF (A_zz65) N Try.f60 S_zz65 x = zz65 N x.1 x.2.1 := by
  refine (run0_zz65 N x).trans ?_
  rw [(funext fun l0 => (funext fun c1 => (funext fun list5 => (funext fun t10 => (funext fun t11 => (funext fun t12 => zz65_in3 N l0 c1 list5 t10 t11 t12))))))]
  rfl
theorem fn_zz65 : FnOk Try.prog 60 := ⟨_, Try.func60, by kernel_rfl, by kernel_rfl⟩
theorem good_zz65 : Gx.Good Try.prog 60 S_zz65 := good_of_run Try.func60 (of_decide_eq_true (by kernel_rfl)) fun x r h => ⟨A_zz65, big, mkCfg_ok tabOk, mkCfg_sigs (show SigsOk Try.prog [(62, S_zz64), (102, S_zz54)] from ⟨⟨fn_zz64, good_zz64⟩, ⟨fn_zz54, good_zz54⟩, trivial⟩), (run_zz65 big x).trans h⟩

/-! zz66 -/
def zz66_s (l_0 : Y1) (set_1 : Y4) : Option (Y4 × Unit) :=
  (zz61 big l_0 set_1).bind fun rq1 =>
  (zz65 big l_0 rq1.1).bind fun rq2 =>
  some (rq2.1, (()))
def zz66 (l_0 : Y1) (set_1 : Y4) : Option (Y4 × Unit) := zz66_s l_0 set_1
def S_zz66 : Sig := { a := (.pair (.opt (.pair (.sl (.sl .bool)) (.pair (.sl (.sl I)) (.pair (.sl (.sl I)) .unit)))) (.pair (.sl I) .unit)), md := [0, 0], mf := [], m := .unit, r := (.sl I), rf := (.o .i), f := fun x => zz66 x.1 x.2.1 }
def A_zz66 : Cfg := mkCfg tab [(77, S_zz61), (60, S_zz65)] []
theorem run_zz66 (N : Nat) (x : (S_zz66).a.den) : runF (A_zz66) N Try.f54 S_zz66 x = zz66 x.1 x.2.1 := by kernel_rfl
theorem fn_zz66 : FnOk Try.prog 54 := ⟨_, Try.func54, by kernel_rfl, by kernel_rfl⟩
theorem good_zz66 : Gx.Good Try.prog 54 S_zz66 := good_of_run Try.func54 (of_decide_eq_true (by kernel_rfl)) fun x r h => ⟨A_zz66, big, mkCfg_ok tabOk, mkCfg_sigs (show SigsOk Try.prog [(77, S_zz61), (60, S_zz65)] from ⟨⟨fn_zz61, good_zz61⟩, ⟨fn_zz65, good_zz65⟩, trivial⟩), (run_zz66 big x).trans h⟩

/-! zz67 -/
def zz67_b2 (rec : Int → Y4 → Int → Int → Option (Bool × Unit)) (k : Option (Bool × Unit)) (x1 : Int) (t7 : Y4) (t8 : Int) (t9 : Int) : Option (Bool × Unit) :=
  cond (decide (t9 < t8))
  ((atI t7 t9).bind fun xq1 =>
  cond (decide (x1 = xq1))
  (some (false, (())))
  (rec x1 t7 t8 (IntKind.i64.wrap (t9 + (1 : Int)))))
  (k)
def zz67_a2 : Option (Bool × Unit) :=
  some (true, (()))
def zz67_s (L2 : Int → Y4 → Int → Int → Option (Bool × Unit)) (list_0 : Y4) (x_1 : Int) : Option (Bool × Unit) :=
  L2 x_1 list_0 (list_0.length : Int) (0 : Int)
def zz67_l2 (N : Nat) (k : Option (Bool × Unit)) : Nat → Int → Y4 → Int → Int → Option (Bool × Unit)
  | 0, _, _, _, _ => none
  | m + 1, x1, t7, t8, t9 => zz67_b2 (zz67_l2 N k m) k x1 t7 t8 t9
def zz67_F2 (N : Nat) (x1 : Int) (t7 : Y4) (t8 : Int) (t9 : Int) : Option (Bool × Unit) := zz67_l2 N (zz67_a2) N x1 t7 t8 t9
def zz67 (N : Nat) (list_0 : Y4) (x_1 : Int) : Option (Bool × Unit) := zz67_s (zz67_F2 N) list_0 x_1
def S_zz67 : Sig := { a := (.pair (.sl I) (.pair I .unit)), md := [0, 0], mf := [], m := .unit, r := .bool, rf := .i, f := fun x => zz67 big x.1 x.2.1 }
def A_zz67 : Cfg := mkCfg tab [] [(4, [.drop, .as I .i, .drop, .drop, .drop, .drop, .drop, .as (.sl I) .i, .as I .i, .as I .i]), (15, [])]
noncomputable def zz67_R2 (N n : Nat) (K : Ex → St → Option (Bool × Unit)) (x1 : Int) (t7 : Y4) (t8 : Int) (t9 : Int) : Option (Bool × Unit) := iter ((A_zz67).shape 4) (run (A_zz67) N (codeAt Try.f53 [1, 0, 1, 0, 0])) n ([.u, .val I .i x1, .u, .u, .u, .u, .u, .val (.sl I) .i t7, .val I .i t8, .val I .i t9] ++ List.replicate 7 .u) K
noncomputable abbrev zz67_z : Ex → St → Option (Bool × Unit) := finish (A_zz67) S_zz67 Try.f53.results.toList
noncomputable abbrev zz67_X2 (kX : St → Option (Bool × Unit)) : Option (Bool × Unit) := kX ([] ++ List.replicate 17 .u)
noncomputable abbrev zz67_E2 (kX : St → Option (Bool × Unit)) (kO : Nat → St → Option (Bool × Unit)) : Ex → St → Option (Bool × Unit) := exK zz67_z 0 ((A_zz67).shape 15) kX kO
theorem zz67_step2 (N : Nat) (m : Nat) (kX : St → Option (Bool × Unit)) (kO : Nat → St → Option (Bool × Unit)) (x1 : Int) (t7 : Y4) (t8 : Int) (t9 : Int) : zz67_R2 N (m + 1) (zz67_E2 kX kO) x1 t7 t8 t9 = zz67_b2 (zz67_R2 N m (zz67_E2 kX kO)) (zz67_X2 kX) x1 t7 t8 t9 := by kernel_rfl
theorem zz67_iter2 (N : Nat) (kX : St → Option (Bool × Unit)) (kO : Nat → St → Option (Bool × Unit)) : ∀ (n : Nat) (x1 : Int) (t7 : Y4) (t8 : Int) (t9 : Int), zz67_R2 N n (zz67_E2 kX kO) x1 t7 t8 t9 = zz67_l2 N (zz67_X2 kX) n x1 t7 t8 t9
  | 0, _, _, _, _ => rfl
  | m + 1, x1, t7, t8, t9 => by
    have hrec : zz67_R2 N m (zz67_E2 kX kO) = (zz67_l2 N (zz67_X2 kX) m) := (funext fun x1 => (funext fun t7 => (funext fun t8 => (funext fun t9 => zz67_iter2 N kX kO m x1 t7 t8 t9))))
    refine (zz67_step2 N m kX kO x1 t7 t8 t9).trans ?_
    rw [hrec]
    rfl
noncomputable abbrev zz67_K2 (N : Nat) : Ex → St → Option (Bool × Unit) := (blockK 0 (seqK ((A_zz67).shape 15) (run (A_zz67) N (codeAt Try.f53 [1, 1])) zz67_z))
noncomputable abbrev zz67_k2 (N : Nat) : St → Option (Bool × Unit) := fun st' => run (A_zz67) N (codeAt Try.f53 [1, 1]) st' zz67_z
theorem zz67_after2 (N : Nat) : zz67_X2 (zz67_k2 N) = zz67_a2 := by kernel_rfl
theorem zz67_in2 (N : Nat) (x1 : Int) (t7 : Y4) (t8 : Int) (t9 : Int) : zz67_R2 N N (zz67_K2 N) x1 t7 t8 t9 = zz67_F2 N x1 t7 t8 t9 :=
  have h : zz67_X2 (zz67_k2 N) = (zz67_a2) := zz67_after2 N
  ((iter_ex (fun st => by kernel_rfl) (fun st => by kernel_rfl)).trans (zz67_iter2 N (zz67_k2 N) (fun j st => (zz67_K2 N) (.exit j) st) N x1 t7 t8 t9)).trans (congrArg (fun k => zz67_l2 N k N x1 t7 t8 t9) h)
theorem run0_zz67 (N : Nat) (x : (S_zz67).a.den) : runF (A_zz67) N Try.f53 S_zz67 x = (zz67_s (zz67_R2 N N (zz67_K2 N)) x.1 x.2.1) := by kernel_rfl
theorem run_zz67 (N : Nat) (x : (S_zz67).a.den) : runF (A_zz67) N Try.f53 S_zz67 x = zz67 N x.1 x.2.1 := by
  refine (run0_zz67 N x).trans ?_
  rw [(funext fun x1 => (funext fun t7 => (funext fun t8 => (funext fun t9 => zz67_in2 N x1 t7 t8 t9))))]
  rfl
theorem fn_zz67 : FnOk Try.prog 53 := ⟨_, Try.func53, by kernel_rfl, by kernel_rfl⟩
theorem good_zz67 : Gx.Good Try.prog 53 S_zz67 := good_of_run Try.func53 (of_decide_eq_true (by kernel_rfl)) fun x r h => ⟨A_zz67, big, mkCfg_ok tabOk, mkCfg_sigs (show SigsOk Try.prog [] from trivial), (run_zz67 big x).trans h⟩

/-! zz68 -/
def zz68_s (p_0 : Y2) (j_1 : Int) (k_2 : Int) : Option ((Bool × (Bool × Unit)) × Unit) :=
  (zz46 p_0).bind fun rq1 =>
  cond (!rq1.1.2.1)
  (some ((false, false, ()), (())))
  ((zz53 rq1.1.1 j_1).bind fun rq2 =>
  cond (!rq2.1)
  (some ((false, false, ()), (())))
  ((zz53 rq1.1.1 k_2).bind fun rq3 =>
  cond (!rq3.1)
  (some ((false, false, ()), (())))
  ((zz66 rq1.1.1 [j_1]).bind fun rq4 =>
  (zz67 big rq4.1 k_2).bind fun rq5 =>
  some ((!rq5.1, true, ()), (())))))
def zz68 (p_0 : Y2) (j_1 : Int) (k_2 : Int) : Option ((Bool × (Bool × Unit)) × Unit) := zz68_s p_0 j_1 k_2
def S_zz68 : Sig := { a := (.pair (.pair (.sl (.sl I)) .unit) (.pair I (.pair I .unit))), md := [0, 0, 0], mf := [], m := .unit, r := (.tup (.pair .bool (.pair .bool .unit))), rf := .i, f := fun x => zz68 x.1 x.2.1 x.2.2.1 }
def A_zz68 : Cfg := mkCfg tab [(51, S_zz46), (52, S_zz53), (54, S_zz66), (53, S_zz67)] []
theorem run_zz68 (N : Nat) (x : (S_zz68).a.den) : runF (A_zz68) N Try.f19 S_zz68 x = zz68 x.1 x.2.1 x.2.2.1 := by kernel_rfl
theorem fn_zz68 : FnOk Try.prog 19 := ⟨_, Try.func19, by kernel_rfl, by kernel_rfl⟩
theorem good_zz68 : Gx.Good Try.prog 19 S_zz68 := good_of_run Try.func19 (of_decide_eq_true (by kernel_rfl)) fun x r h => ⟨A_zz68, big, mkCfg_ok tabOk, mkCfg_sigs (show SigsOk Try.prog [(51, S_zz46), (52, S_zz53), (54, S_zz66), (53, S_zz67)] from ⟨⟨fn_zz46, good_zz46⟩, ⟨fn_zz53, good_zz53⟩, ⟨fn_zz66, good_zz66⟩, ⟨fn_zz67, good_zz67⟩, trivial⟩), (run_zz68 big x).trans h⟩

/-! zz69 -/
def zz69_b4 (rec : Y4 → Y4 → Int → Option (Bool × Unit)) (k : Option (Bool × Unit)) (a0 : Y4) (b1 : Y4) (i5 : Int) : Option (Bool × Unit) :=
  cond (decide (i5 < (a0.length : Int)))
  ((atI a0 i5).bind fun xq1 =>
  (atI b1 i5).bind fun xq2 =>
  cond (decide (xq1 ≠ xq2))
  (some (false, (())))
  (rec a0 b1 (IntKind.i64.wrap (i5 + (1 : Int)))))
  (k)
def zz69_a4 : Option (Bool × Unit) :=
  some (true, (()))
def zz69_s (L4 : Y4 → Y4 → Int → Option (Bool × Unit)) (a_0 : Y4) (b_1 : Y4) : Option (Bool × Unit) :=
  cond (decide ((a_0.length : Int) ≠ (b_1.length : Int)))
  (some (false, (())))
  (L4 a_0 b_1 (0 : Int))
def zz69_l4 (N : Nat) (k : Option (Bool × Unit)) : Nat → Y4 → Y4 → Int → Option (Bool × Unit)
  | 0, _, _, _ => none
  | m + 1, a0, b1, i5 => zz69_b4 (zz69_l4 N k m) k a0 b1 i5
def zz69_F4 (N : Nat) (a0 : Y4) (b1 : Y4) (i5 : Int) : Option (Bool × Unit) := zz69_l4 N (zz69_a4) N a0 b1 i5
def zz69 (N : Nat) (a_0 : Y4) (b_1 : Y4) : Option (Bool × Unit) := zz69_s (zz69_F4 N) a_0 b_1
def S_zz69 : Sig := { a := (.pair (.sl I) (.pair (.sl I) .unit)), md := [0, 0], mf := [], m := .unit, r := .bool, rf := .i, f := fun x => zz69 big x.1 x.2.1 }
def A_zz69 : Cfg := mkCfg tab [] [(8, [.as (.sl I) .i, .as (.sl I) .i, .drop, .drop, .drop, .as I .i]), (17, [])]
noncomputable def zz69_R4 (N n : Nat) (K : Ex → St → Option (Bool × Unit)) (a0 : Y4) (b1 : Y4) (i5 : Int) : Option (Bool × Unit) := iter ((A_zz69).shape 8) (run (A_zz69) N (codeAt Try.f23 [1, 1, 0, 1, 0, 0])) n ([.val (.sl I) .i a0, .val (.sl I) .i b1, .u, .u, .u, .val I .i i5] ++ List.replicate 20 .u) K
noncomputable abbrev zz69_z : Ex → St → Option (Bool × Unit) := finish (A_zz69) S_zz69 Try.f23.results.toList
noncomputable abbrev zz69_X4 (kX : St → Option (Bool × Unit)) : Option (Bool × Unit) := kX ([] ++ List.replicate 26 .u)
noncomputable abbrev zz69_E4 (kX : St → Option (Bool × Unit)) (kO : Nat → St → Option (Bool × Unit)) : Ex → St → Option (Bool × Unit) := exK zz69_z 0 ((A_zz69).shape 17) kX kO
theorem zz69_step4 (N : Nat) (m : Nat) (kX : St → Option (Bool × Unit)) (kO : Nat → St → Option (Bool × Unit)) (a0 : Y4) (b1 : Y4) (i5 : Int) : zz69_R4 N (m + 1) (zz69_E4 kX kO) a0 b1 i5 = zz69_b4 (zz69_R4 N m (zz69_E4 kX kO)) (zz69_X4 kX) a0 b1 i5 := by kernel_rfl
theorem zz69_iter4 (N : Nat) (kX : St → Option (Bool × Unit)) (kO : Nat → St → Option (Bool × Unit)) : ∀ (n : Nat) (a0 : Y4) (b1 : Y4) (i5 : Int), zz69_R4 N n (zz69_E4 kX kO) a0 b1 i5 = zz69_l4 N (zz69_X4 kX) n a0 b1 i5
  | 0, _, _, _ => rfl
  | m + 1, a0, b1, i5 => by
    have hrec : zz69_R4 N m (zz69_E4 kX kO) = (zz69_l4 N (zz69_X4 kX) m) := (funext fun a0 => (funext fun b1 => (funext fun i5 => zz69_iter4 N kX kO m a0 b1 i5)))
    refine (zz69_step4 N m kX kO a0 b1 i5).trans ?_
    rw [hrec]
    rfl
noncomputable abbrev zz69_K4 (N : Nat) : Ex → St → Option (Bool × Unit) := (blockK 0 (seqK ((A_zz69).shape 17) (run (A_zz69) N (codeAt Try.f23 [1, 1, 1])) zz69_z))
noncomputable abbrev zz69_k4 (N : Nat) : St → Option (Bool × Unit) := fun st' => run (A_zz69) N (codeAt Try.f23 [1, 1, 1]) st' zz69_z
theorem zz69_after4 (N : Nat) : zz69_X4 (zz69_k4 N) = zz69_a4 := by kernel_rfl
theorem zz69_in4 (N : Nat) (a0 : Y4) (b1 : Y4) (i5 : Int) : zz69_R4 N N (zz69_K4 N) a0 b1 i5 = zz69_F4 N a0 b1 i5 :=
  have h : zz69_X4 (zz69_k4 N) = (zz69_a4) := zz69_after4 N
  ((iter_ex (fun st => by kernel_rfl) (fun st => by kernel_rfl)).trans (zz69_iter4 N (zz69_k4 N) (fun j st => (zz69_K4 N) (.exit j) st) N a0 b1 i5)).trans (congrArg (fun k => zz69_l4 N k N a0 b1 i5) h)
theorem run0_zz69 (N : Nat) (x : (S_zz69).a.den) : runF (A_zz69) N Try.f23 S_zz69 x = (zz69_s (zz69_R4 N N (zz69_K4 N)) x.1 x.2.1) := by kernel_rfl
theorem run_zz69 (N : Nat) (x : (S_zz69).a.den) : runF (A_zz69) N Try.f23 S_zz69 x = zz69 N x.1 x.2.1 := by
  refine (run0_zz69 N x).trans ?_
  rw [(funext fun a0 => (funext fun b1 => (funext fun i5 => zz69_in4 N a0 b1 i5)))]
  rfl
theorem fn_zz69 : FnOk Try.prog 23 := ⟨_, Try.func23, by kernel_rfl, by kernel_rfl⟩
theorem good_zz69 : Gx.Good Try.prog 23 S_zz69 := good_of_run Try.func23 (of_decide_eq_true (by kernel_rfl)) fun x r h => ⟨A_zz69, big, mkCfg_ok tabOk, mkCfg_sigs (show SigsOk Try.prog [] from trivial), (run_zz69 big x).trans h⟩

/-! zz70 -/
def zz70_b4 (rec : Y3 → Y3 → Int → Option (Bool × Unit)) (k : Option (Bool × Unit)) (a0 : Y3) (b1 : Y3) (i5 : Int) : Option (Bool × Unit) :=
  cond (decide (i5 < (a0.length : Int)))
  ((atI a0 i5).bind fun xq1 =>
  (atI b1 i5).bind fun xq2 =>
  (zz69 big xq1 xq2).bind fun rq3 =>
  cond (!rq3.1)
  (some (false, (())))
  (rec a0 b1 (IntKind.i64.wrap (i5 + (1 : Int)))))
  (k)
def zz70_a4 : Option (Bool × Unit) :=
  some (true, (()))
def zz70_s (L4 : Y3 → Y3 → Int → Option (Bool × Unit)) (a_0 : Y3) (b_1 : Y3) : Option (Bool × Unit) :=
  cond (decide ((a_0.length : Int) ≠ (b_1.length : Int)))
  (some (false, (())))
  (L4 a_0 b_1 (0 : Int))
def zz70_l4 (N : Nat) (k : Option (Bool × Unit)) : Nat → Y3 → Y3 → Int → Option (Bool × Unit)
  | 0, _, _, _ => none
  | m + 1, a0, b1, i5 => zz70_b4 (zz70_l4 N k m) k a0 b1 i5
def zz70_F4 (N : Nat) (a0 : Y3) (b1 : Y3) (i5 : Int) : Option (Bool × Unit) := zz70_l4 N (zz70_a4) N a0 b1 i5
def zz70 (N : Nat) (a_0 : Y3) (b_1 : Y3) : Option (Bool × Unit) := zz70_s (zz70_F4 N) a_0 b_1
def S_zz70 : Sig := { a := (.pair (.sl (.sl I)) (.pair (.sl (.sl I)) .unit)), md := [0, 0], mf := [], m := .unit, r := .bool, rf := .i, f := fun x => zz70 big x.1 x.2.1 }
def A_zz70 : Cfg := mkCfg tab [(23, S_zz69)] [(8, [.as (.sl (.sl I)) .i, .as (.sl (.sl I)) .i, .drop, .drop, .drop, .as I .i]), (17, [])]
noncomputable def zz70_R4 (N n : Nat) (K : Ex → St → Option (Bool × Unit)) (a0 : Y3) (b1 : Y3) (i5 : Int) : Option (Bool × Unit) := iter ((A_zz70).shape 8) (run (A_zz70) N (codeAt Try.f43 [1, 1, 0, 1, 0, 0])) n ([.val (.sl (.sl I)) .i a0, .val (.sl (.sl I)) .i b1, .u, .u, .u, .val I .i i5] ++ List.replicate 21 .u) K
noncomputable abbrev zz70_z : Ex → St → Option (Bool × Unit) := finish (A_zz70) S_zz70 Try.f43.results.toList
noncomputable abbrev zz70_X4 (kX : St → Option (Bool × Unit)) : Option (Bool × Unit) := kX ([] ++ List.replicate 27 .u)
noncomputable abbrev zz70_E4 (kX : St → Option (Bool × Unit)) (kO : Nat → St → Option (Bool × Unit)) : Ex → St → Option (Bool × Unit) := exK zz70_z 0 ((A_zz70).shape 17) kX kO
theorem zz70_step4 (N : Nat) (m : Nat) (kX : St → Option (Bool × Unit)) (kO : Nat → St → Option (Bool × Unit)) (a0 : Y3) (b1 : Y3) (i5 : Int) : zz70_R4 N (m + 1) (zz70_E4 kX kO) a0 b1 i5 = zz70_b4 (zz70_R4 N m (zz70_E4 kX kO)) (zz70_X4 kX) a0 b1 i5 := by kernel_rfl
theorem zz70_iter4 (N : Nat) (kX : St → Option (Bool × Unit)) (kO : Nat → St → Option (Bool × Unit)) : ∀ (n : Nat) (a0 : Y3) (b1 : Y3) (i5 : Int), zz70_R4 N n (zz70_E4 kX kO) a0 b1 i5 = zz70_l4 N (zz70_X4 kX) n a0 b1 i5
  | 0, _, _, _ => rfl
  | m + 1, a0, b1, i5 => by
    have hrec : zz70_R4 N m (zz70_E4 kX kO) = (zz70_l4 N (zz70_X4 kX) m) := (funext fun a0 => (funext fun b1 => (funext fun i5 => zz70_iter4 N kX kO m a0 b1 i5)))
    refine (zz70_step4 N m kX kO a0 b1 i5).trans ?_
    rw [hrec]
    rfl
noncomputable abbrev zz70_K4 (N : Nat) : Ex → St → Option (Bool × Unit) := (blockK 0 (seqK ((A_zz70).shape 17) (run (A_zz70) N (codeAt Try.f43 [1, 1, 1])) zz70_z))
noncomputable abbrev zz70_k4 (N : Nat) : St → Option (Bool × Unit) := fun st' => run (A_zz70) N (codeAt Try.f43 [1, 1, 1]) st' zz70_z
theorem zz70_after4 (N : Nat) : zz70_X4 (zz70_k4 N) = zz70_a4 := by kernel_rfl
theorem zz70_in4 (N : Nat) (a0 : Y3) (b1 : Y3) (i5 : Int) : zz70_R4 N N (zz70_K4 N) a0 b1 i5 = zz70_F4 N a0 b1 i5 :=
  have h : zz70_X4 (zz70_k4 N) = (zz70_a4) := zz70_after4 N
  ((iter_ex (fun st => by kernel_rfl) (fun st => by kernel_rfl)).trans (zz70_iter4 N (zz70_k4 N) (fun j st => (zz70_K4 N) (.exit j) st) N a0 b1 i5)).trans (congrArg (fun k => zz70_l4 N k N a0 b1 i5) h)
theorem run0_zz70 (N : Nat) (x : (S_zz70).a.den) : runF (A_zz70) N Try.f43 S_zz70 x = (zz70_s (zz70_R4 N N (zz70_K4 N)) x.1 x.2.1) := by kernel_rfl
theorem run_zz70 (N : Nat) (x : (S_zz70).a.den) : runF (A_zz70) N Try.f43 S_zz70 x = zz70 N x.1 x.2.1 := by
  refine (run0_zz70 N x).trans ?_
  rw [(funext fun a0 => (funext fun b1 => (funext fun i5 => zz70_in4 N a0 b1 i5)))]
  rfl
theorem fn_zz70 : FnOk Try.prog 43 := ⟨_, Try.func43, by kernel_rfl, by kernel_rfl⟩
theorem good_zz70 : Gx.Good Try.prog 43 S_zz70 := good_of_run Try.func43 (of_decide_eq_true (by kernel_rfl)) fun x r h => ⟨A_zz70, big, mkCfg_ok tabOk, mkCfg_sigs (show SigsOk Try.prog [(23, S_zz69)] from ⟨⟨fn_zz69, good_zz69⟩, trivial⟩), (run_zz70 big x).trans h⟩

/-! zz71 -/
def zz71_s (a_0 : Y2) (b_1 : Y2) : Option (Bool × Unit) :=
  (zz70 big a_0.1 b_1.1).bind fun rq1 =>
  cond (!rq1.1)
  (some (false, (())))
  (some (true, (())))
def zz71 (a_0 : Y2) (b_1 : Y2) : Option (Bool × Unit) := zz71_s a_0 b_1
def S_zz71 : Sig := { a := (.pair (.pair (.sl (.sl I)) .unit) (.pair (.pair (.sl (.sl I)) .unit) .unit)), md := [0, 0], mf := [], m := .unit, r := .bool, rf := .i, f := fun x => zz71 x.1 x.2.1 }
def A_zz71 : Cfg := mkCfg tab [(43, S_zz70)] []
theorem run_zz71 (N : Nat) (x : (S_zz71).a.den) : runF (A_zz71) N Try.f14 S_zz71 x = zz71 x.1 x.2.1 := by kernel_rfl
theorem fn_zz71 : FnOk Try.prog 14 := ⟨_, Try.func14, by kernel_rfl, by kernel_rfl⟩
theorem good_zz71 : Gx.Good Try.prog 14 S_zz71 := good_of_run Try.func14 (of_decide_eq_true (by kernel_rfl)) fun x r h => ⟨A_zz71, big, mkCfg_ok tabOk, mkCfg_sigs (show SigsOk Try.prog [(43, S_zz70)] from ⟨⟨fn_zz70, good_zz70⟩, trivial⟩), (run_zz71 big x).trans h⟩

/-! laws_FnExactForces -/
def laws_FnExactForces_s (aP_0 : Y2) (aJ_1 : Int) (aK_2 : Int) : Option (Bool × Unit) :=
  (zz2 aP_0 (1048576 : Int)).bind fun rq1 =>
  cond (decide (rq1.1 < (0 : Int)))
  (some (true, (())))
  ((zz5 aP_0).bind fun rq2 =>
  (zz34 rq2.1 aJ_1 aK_2).bind fun rq3 =>
  (zz5 aP_0).bind fun rq4 =>
  (zz68 rq4.1 aJ_1 aK_2).bind fun rq5 =>
  cond (rq5.1.1 != rq3.1.1)
  (some (false, (())))
  (cond (rq5.1.2.1 != rq3.1.2.1)
  (some (false, (())))
  ((zz5 aP_0).bind fun rq6 =>
  (zz71 rq4.1 rq6.1).bind fun rq7 =>
  cond (!rq7.1)
  (some (false, (())))
  (some (true, (()))))))
def laws_FnExactForces (aP_0 : Y2) (aJ_1 : Int) (aK_2 : Int) : Option (Bool × Unit) := laws_FnExactForces_s aP_0 aJ_1 aK_2
def S_laws_FnExactForces : Sig := { a := (.pair (.pair (.sl (.sl I)) .unit) (.pair I (.pair I .unit))), md := [0, 0, 0], mf := [], m := .unit, r := .bool, rf := .i, f := fun x => laws_FnExactForces x.1 x.2.1 x.2.2.1 }
def A_laws_FnExactForces : Cfg := mkCfg tab [(9, S_zz2), (11, S_zz5), (18, S_zz34), (19, S_zz68), (14, S_zz71)] []
theorem run_laws_FnExactForces (N : Nat) (x : (S_laws_FnExactForces).a.den) : runF (A_laws_FnExactForces) N Try.f4 S_laws_FnExactForces x = laws_FnExactForces x.1 x.2.1 x.2.2.1 := by kernel_rfl
theorem fn_laws_FnExactForces : FnOk Try.prog 4 := ⟨_, Try.func4, by kernel_rfl, by kernel_rfl⟩
theorem good_laws_FnExactForces : Gx.Good Try.prog 4 S_laws_FnExactForces := good_of_run Try.func4 (of_decide_eq_true (by kernel_rfl)) fun x r h => ⟨A_laws_FnExactForces, big, mkCfg_ok tabOk, mkCfg_sigs (show SigsOk Try.prog [(9, S_zz2), (11, S_zz5), (18, S_zz34), (19, S_zz68), (14, S_zz71)] from ⟨⟨fn_zz2, good_zz2⟩, ⟨fn_zz5, good_zz5⟩, ⟨fn_zz34, good_zz34⟩, ⟨fn_zz68, good_zz68⟩, ⟨fn_zz71, good_zz71⟩, trivial⟩), (run_laws_FnExactForces big x).trans h⟩

/-! zz72 -/
def zz72_b10 (rec : Y2 → (List (Int × (Int × Unit))) → Y4 → Int → Y4 → Int → Option (((List (Int × (Int × Unit))) × (Bool × Unit)) × Unit)) (k : Y2 → (List (Int × (Int × Unit))) → Y4 → Int → Option (((List (Int × (Int × Unit))) × (Bool × Unit)) × Unit)) (p1 : Y2) (out4 : (List (Int × (Int × Unit)))) (all5 : Y4) (i6 : Int) (forced7 : Y4) (k8 : Int) : Option (((List (Int × (Int × Unit))) × (Bool × Unit)) × Unit) :=
  cond (decide (k8 < (forced7.length : Int)))
  ((atI forced7 k8).bind fun _ =>
  (forced7[k8.toNat]?).bind fun xq5 =>
  (atI all5 i6).bind fun _ =>
  (all5[i6.toNat]?).bind fun xq6 =>
  cond (decide (xq5 ≠ xq6))
  ((atI all5 i6).bind fun _ =>
  (all5[i6.toNat]?).bind fun xq7 =>
  (atI forced7 k8).bind fun _ =>
  (forced7[k8.toNat]?).bind fun xq8 =>
  (appI out4 [(xq7, (xq8, ()))]).bind fun xq9 =>
  rec p1 xq9 all5 i6 forced7 (IntKind.i64.wrap (k8 + (1 : Int))))
  (rec p1 out4 all5 i6 forced7 (IntKind.i64.wrap (k8 + (1 : Int)))))
  (k p1 out4 all5 i6)
def zz72_a10 (rec : Y2 → (List (Int × (Int × Unit))) → Y4 → Int → Option (((List (Int × (Int × Unit))) × (Bool × Unit)) × Unit)) (p1 : Y2) (out4 : (List (Int × (Int × Unit)))) (all5 : Y4) (i6 : Int) : Option (((List (Int × (Int × Unit))) × (Bool × Unit)) × Unit) :=
  rec p1 out4 all5 (IntKind.i64.wrap (i6 + (1 : Int)))
def zz72_b6 (L10 : Y2 → (List (Int × (Int × Unit))) → Y4 → Int → Y4 → Int → Option (((List (Int × (Int × Unit))) × (Bool × Unit)) × Unit)) (k : (List (Int × (Int × Unit))) → Option (((List (Int × (Int × Unit))) × (Bool × Unit)) × Unit)) (p1 : Y2) (out4 : (List (Int × (Int × Unit)))) (all5 : Y4) (i6 : Int) : Option (((List (Int × (Int × Unit))) × (Bool × Unit)) × Unit) :=
  cond (decide (i6 < (all5.length : Int)))
  ((atI all5 i6).bind fun _ =>
  (all5[i6.toNat]?).bind fun xq3 =>
  (zz33 p1 xq3).bind fun rq4 =>
  L10 p1 out4 all5 i6 rq4.1 (0 : Int))
  (k out4)
def zz72_a6 (out4 : (List (Int × (Int × Unit)))) : Option (((List (Int × (Int × Unit))) × (Bool × Unit)) × Unit) :=
  some ((out4, true, ()), (()))
def zz72_s (L6 : Y2 → (List (Int × (Int × Unit))) → Y4 → Int → Option (((List (Int × (Int × Unit))) × (Bool × Unit)) × Unit)) (p_0 : Y2) : Option (((List (Int × (Int × Unit))) × (Bool × Unit)) × Unit) :=
  (zz15 p_0).bind fun rq1 =>
  cond (!rq1.1)
  (some (([], false, ()), (())))
  ((zz18 big p_0).bind fun rq2 =>
  L6 p_0 [] rq2.1 (0 : Int))
def zz72_l10 (N : Nat) (k : Y2 → (List (Int × (Int × Unit))) → Y4 → Int → Option (((List (Int × (Int × Unit))) × (Bool × Unit)) × Unit)) : Nat → Y2 → (List (Int × (Int × Unit))) → Y4 → Int → Y4 → Int → Option (((List (Int × (Int × Unit))) × (Bool × Unit)) × Unit)
  | 0, _, _, _, _, _, _ => none
  | m + 1, p1, out4, all5, i6, forced7, k8 => zz72_b10 (zz72_l10 N k m) k p1 out4 all5 i6 forced7 k8
def zz72_F10 (N : Nat) (rec : Y2 → (List (Int × (Int × Unit))) → Y4 → Int → Option (((List (Int × (Int × Unit))) × (Bool × Unit)) × Unit)) (k : (List (Int × (Int × Unit))) → Option (((List (Int × (Int × Unit))) × (Bool × Unit)) × Unit)) (p1 : Y2) (out4 : (List (Int × (Int × Unit)))) (all5 : Y4) (i6 : Int) (forced7 : Y4) (k8 : Int) : Option (((List (Int × (Int × Unit))) × (Bool × Unit)) × Unit) := zz72_l10 N (zz72_a10 rec) N p1 out4 all5 i6 forced7 k8
def zz72_l6 (N : Nat) (k : (List (Int × (Int × Unit))) → Option (((List (Int × (Int × Unit))) × (Bool × Unit)) × Unit)) : Nat → Y2 → (List (Int × (Int × Unit))) → Y4 → Int → Option (((List (Int × (Int × Unit))) × (Bool × Unit)) × Unit)
  | 0, _, _, _, _ => none
  | m + 1, p1, out4, all5, i6 => zz72_b6 (zz72_F10 N (zz72_l6 N k m) k) k p1 out4 all5 i6
def zz72_F6 (N : Nat) (p1 : Y2) (out4 : (List (Int × (Int × Unit)))) (all5 : Y4) (i6 : Int) : Option (((List (Int × (Int × Unit))) × (Bool × Unit)) × Unit) := zz72_l6 N (zz72_a6) N p1 out4 all5 i6
def zz72 (N : Nat) (p_0 : Y2) : Option (((List (Int × (Int × Unit))) × (Bool × Unit)) × Unit) := zz72_s (zz72_F6 N) p_0
def S_zz72 : Sig := { a := (.pair (.pair (.sl (.sl I)) .unit) .unit), md := [0], mf := [], m := .unit, r := (.tup (.pair (.sl (.pair I (.pair I .unit))) (.pair .bool .unit))), rf := (.p (.o .i) .i), f := fun x => zz72 big x.1 }
def A_zz72 : Cfg := mkCfg tab [(47, S_zz15), (61, S_zz18), (50, S_zz33)] [(12, [.drop, .as (.ptr (.pair (.sl (.sl I)) .unit)) (.o .i), .drop, .drop, .as (.sl (.pair I (.pair I .unit))) (.o .i), .as (.sl I) (.o .i), .as I .i]), (20, [.drop, .as (.ptr (.pair (.sl (.sl I)) .unit)) (.o .i), .drop, .drop, .as (.sl (.pair I (.pair I .unit))) (.o .i), .as (.sl I) (.o .i), .as I .i, .as (.sl I) (.o .i), .as I .i]), (29, [.drop, .drop, .drop, .drop, .as (.sl (.pair I (.pair I .unit))) (.o .i)]), (15, [.drop, .as (.ptr (.pair (.sl (.sl I)) .unit)) (.o .i), .drop, .drop, .as (.sl (.pair I (.pair I .unit))) (.o .i), .as (.sl I) (.o .i), .as I .i])]
noncomputable def zz72_R6 (N n : Nat) (K : Ex → St → Option (((List (Int × (Int × Unit))) × (Bool × Unit)) × Unit)) (p1 : Y2) (out4 : (List (Int × (Int × Unit)))) (all5 : Y4) (i6 : Int) : Option (((List (Int × (Int × Unit))) × (Bool × Unit)) × Unit) := iter ((A_zz72).shape 12) (run (A_zz72) N (codeAt Try.f26 [1, 1, 1, 1, 0, 1, 0, 0])) n ([.u, .val (.ptr (.pair (.sl (.sl I)) .unit)) (.o .i) p1, .u, .u, .val (.sl (.pair I (.pair I .unit))) (.o .i) out4, .val (.sl I) (.o .i) all5, .val I .i i6] ++ List.replicate 49 .u) K
noncomputable def zz72_R10 (N n : Nat) (K : Ex → St → Option (((List (Int × (Int × Unit))) × (Bool × Unit)) × Unit)) (p1 : Y2) (out4 : (List (Int × (Int × Unit)))) (all5 : Y4) (i6 : Int) (forced7 : Y4) (k8 : Int) : Option (((List (Int × (Int × Unit))) × (Bool × Unit)) × Unit) := iter ((A_zz72).shape 20) (run (A_zz72) N (codeAt Try.f26 [1, 1, 1, 1, 0, 1, 0, 0, 1, 0, 0, 1, 1, 0, 0])) n ([.u, .val (.ptr (.pair (.sl (.sl I)) .unit)) (.o .i) p1, .u, .u, .val (.sl (.pair I (.pair I .unit))) (.o .i) out4, .val (.sl I) (.o .i) all5, .val I .i i6, .val (.sl I) (.o .i) forced7, .val I .i k8] ++ List.replicate 47 .u) K
noncomputable abbrev zz72_z : Ex → St → Option (((List (Int × (Int × Unit))) × (Bool × Unit)) × Unit) := finish (A_zz72) S_zz72 Try.f26.results.toList
noncomputable abbrev zz72_X6 (kX : St → Option (((List (Int × (Int × Unit))) × (Bool × Unit)) × Unit)) : (List (Int × (Int × Unit))) → Option (((List (Int × (Int × Unit))) × (Bool × Unit)) × Unit) := fun (out4 : (List (Int × (Int × Unit)))) => kX ([.u, .u, .u, .u, .val (.sl (.pair I (.pair I .unit))) (.o .i) out4] ++ List.replicate 51 .u)
noncomputable abbrev zz72_E6 (kX : St → Option (((List (Int × (Int × Unit))) × (Bool × Unit)) × Unit)) (kO : Nat → St → Option (((List (Int × (Int × Unit))) × (Bool × Unit)) × Unit)) : Ex → St → Option (((List (Int × (Int × Unit))) × (Bool × Unit)) × Unit) := exK zz72_z 0 ((A_zz72).shape 29) kX kO
noncomputable abbrev zz72_X10 (kX : St → Option (((List (Int × (Int × Unit))) × (Bool × Unit)) × Unit)) : Y2 → (List (Int × (Int × Unit))) → Y4 → Int → Option (((List (Int × (Int × Unit))) × (Bool × Unit)) × Unit) := fun (p1 : Y2) (out4 : (List (Int × (Int × Unit)))) (all5 : Y4) (i6 : Int) => kX ([.u, .val (.ptr (.pair (.sl (.sl I)) .unit)) (.o .i) p1, .u, .u, .val (.sl (.pair I (.pair I .unit))) (.o .i) out4, .val (.sl I) (.o .i) all5, .val I .i i6] ++ List.replicate 49 .u)
noncomputable abbrev zz72_E10 (kX : St → Option (((List (Int × (Int × Unit))) × (Bool × Unit)) × Unit)) (kO : Nat → St → Option (((List (Int × (Int × Unit))) × (Bool × Unit)) × Unit)) : Ex → St → Option (((List (Int × (Int × Unit))) × (Bool × Unit)) × Unit) := exK zz72_z 2 ((A_zz72).shape 15) kX kO
theorem zz72_step10 (N : Nat) (m : Nat) (kX : St → Option (((List (Int × (Int × Unit))) × (Bool × Unit)) × Unit)) (kO : Nat → St → Option (((List (Int × (Int × Unit))) × (Bool × Unit)) × Unit)) (p1 : Y2) (out4 : (List (Int × (Int × Unit)))) (all5 : Y4) (i6 : Int) (forced7 : Y4) (k8 : Int) : zz72_R10 N (m + 1) (zz72_E10 kX kO) p1 out4 all5 i6 forced7 k8 = zz72_b10 (zz72_R10 N m (zz72_E10 kX kO)) (zz72_X10 kX) p1 out4 all5 i6 forced7 k8 := by kernel_rfl
theorem zz72_iter10 (N : Nat) (kX : St → Option (((List (Int × (Int × Unit))) × (Bool × Unit)) × Unit)) (kO : Nat → St → Option (((List (Int × (Int × Unit))) × (Bool × Unit)) × Unit)) : ∀ (n : Nat) (p1 : Y2) (out4 : (List (Int × (Int × Unit)))) (all5 : Y4) (i6 : Int) (forced7 : Y4) (k8 : Int), zz72_R10 N n (zz72_E10 kX kO) p1 out4 all5 i6 forced7 k8 = zz72_l10 N (zz72_X10 kX) n p1 out4 all5 i6 forced7 k8
  | 0, _, _, _, _, _, _ => rfl
  | m + 1, p1, out4, all5, i6, forced7, k8 => by
    have hrec : zz72_R10 N m (zz72_E10 kX kO) = (zz72_l10 N (zz72_X10 kX) m) := (funext fun p1 => (funext fun out4 => (funext fun all5 => (funext fun i6 => (funext fun forced7 => (funext fun k8 => zz72_iter10 N kX kO m p1 out4 all5 i6 forced7 k8))))))
    refine (zz72_step10 N m kX kO p1 out4 all5 i6 forced7 k8).trans ?_
    rw [hrec]
    rfl
noncomputable abbrev zz72_K10 (N : Nat) (m : Nat) (kX : St → Option (((List (Int × (Int × Unit))) × (Bool × Unit)) × Unit)) (kO : Nat → St → Option (((List (Int × (Int × Unit))) × (Bool × Unit)) × Unit)) : Ex → St → Option (((List (Int × (Int × Unit))) × (Bool × Unit)) × Unit) := (blockK 2 (blockK 1 (seqK ((A_zz72).shape 15) (run (A_zz72) N (codeAt Try.f26 [1, 1, 1, 1, 0, 1, 0, 0, 1, 1])) (iterK ((A_zz72).shape 12) (run (A_zz72) N (codeAt Try.f26 [1, 1, 1, 1, 0, 1, 0, 0])) m (zz72_E6 kX kO)))))
noncomputable abbrev zz72_k10 (N : Nat) (m : Nat) (kX : St → Option (((List (Int × (Int × Unit))) × (Bool × Unit)) × Unit)) (kO : Nat → St → Option (((List (Int × (Int × Unit))) × (Bool × Unit)) × Unit)) : St → Option (((List (Int × (Int × Unit))) × (Bool × Unit)) × Unit) := fun st' => run (A_zz72) N (codeAt Try.f26 [1, 1, 1, 1, 0, 1, 0, 0, 1, 1]) st' (iterK ((A_zz72).shape 12) (run (A_zz72) N (codeAt Try.f26 [1, 1, 1, 1, 0, 1, 0, 0])) m (zz72_E6 kX kO))
theorem zz72_after10 (N : Nat) (m : Nat) (kX : St → Option (((List (Int × (Int × Unit))) × (Bool × Unit)) × Unit)) (kO : Nat → St → Option (((List (Int × (Int × Unit))) × (Bool × Unit)) × Unit)) (p1 : Y2) (out4 : (List (Int × (Int × Unit)))) (all5 : Y4) (i6 : Int) : zz72_X10 (zz72_k10 N m kX kO) p1 out4 all5 i6 = zz72_a10 (zz72_R6 N m (zz72_E6 kX kO)) p1 out4 all5 i6 := by kernel_rfl
theorem zz72_in10 (N : Nat) (m : Nat) (kX : St → Option (((List (Int × (Int × Unit))) × (Bool × Unit)) × Unit)) (kO : Nat → St → Option (((List (Int × (Int × Unit))) × (Bool × Unit)) × Unit)) (recF : Y2 → (List (Int × (Int × Unit))) → Y4 → Int → Option (((List (Int × (Int × Unit))) × (Bool × Unit)) × Unit)) (hrec : zz72_R6 N m (zz72_E6 kX kO) = recF) (p1 : Y2) (out4 : (List (Int × (Int × Unit)))) (all5 : Y4) (i6 : Int) (forced7 : Y4) (k8 : Int) : zz72_R10 N N (zz72_K10 N m kX kO) p1 out4 all5 i6 forced7 k8 = zz72_F10 N recF (zz72_X6 kX) p1 out4 all5 i6 forced7 k8 :=
  have h : zz72_X10 (zz72_k10 N m kX kO) = (zz72_a10 recF) := (funext fun p1 => (funext fun out4 => (funext fun all5 => (funext fun i6 => (zz72_after10 N m kX kO p1 out4 all5 i6).trans (by rw [hrec])))))
  ((iter_ex (fun st => by kernel_rfl) (fun st => by kernel_rfl)).trans (zz72_iter10 N (zz72_k10 N m kX kO) (fun j st => (zz72_K10 N m kX kO) (.exit j) st) N p1 out4 all5 i6 forced7 k8)).trans (congrArg (fun k => zz72_l10 N k N p1 out4 all5 i6 forced7 k8) h)
theorem zz72_step6 (N : Nat) (m : Nat) (kX : St → Option (((List (Int × (Int × Unit))) × (Bool × Unit)) × Unit)) (kO : Nat → St → Option (((List (Int × (Int × Unit))) × (Bool × Unit)) × Unit)) (p1 : Y2) (out4 : (List (Int × (Int × Unit)))) (all5 : Y4) (i6 : Int) : zz72_R6 N (m + 1) (zz72_E6 kX kO) p1 out4 all5 i6 = zz72_b6 (zz72_R10 N N (zz72_K10 N m kX kO)) (zz72_X6 kX) p1 out4 all5 i6 := by kernel_rfl
theorem zz72_iter6 (N : Nat) (kX : St → Option (((List (Int × (Int × Unit))) × (Bool × Unit)) × Unit)) (kO : Nat → St → Option (((List (Int × (Int × Unit))) × (Bool × Unit)) × Unit)) : ∀ (n : Nat) (p1 : Y2) (out4 : (List (Int × (Int × Unit)))) (all5 : Y4) (i6 : Int), zz72_R6 N n (zz72_E6 kX kO) p1 out4 all5 i6 = zz72_l6 N (zz72_X6 kX) n p1 out4 all5 i6
  | 0, _, _, _, _ => rfl
  | m + 1, p1, out4, all5, i6 => by
    have hrec : zz72_R6 N m (zz72_E6 kX kO) = (zz72_l6 N (zz72_X6 kX) m) := (funext fun p1 => (funext fun out4 => (funext fun all5 => (funext fun i6 => zz72_iter6 N kX kO m p1 out4 all5 i6))))
    refine (zz72_step6 N m kX kO p1 out4 all5 i6).trans ?_
    rw [(funext fun p1 => (funext fun out4 => (funext fun all5 => (funext fun i6 => (funext fun forced7 => (funext fun k8 => zz72_in10 N m kX kO (zz72_l6 N (zz72_X6 kX) m) hrec p1 out4 all5 i6 forced7 k8))))))]
    rfl
noncomputable abbrev zz72_K6 (N : Nat) : Ex → St → Option (((List (Int × (Int × Unit))) × (Bool × Unit)) × Unit) := (blockK 0 (seqK ((A_zz72).shape 29) (run (A_zz72) N (codeAt Try.f26 [1, 1, 1, 1, 1])) zz72_z))
noncomputable abbrev zz72_k6 (N : Nat) : St → Option (((List (Int × (Int × Unit))) × (Bool × Unit)) × Unit) := fun st' => run (A_zz72) N (codeAt Try.f26 [1, 1, 1, 1, 1]) st' zz72_z
theorem zz72_after6 (N : Nat) (out4 : (List (Int × (Int × Unit)))) : zz72_X6 (zz72_k6 N) out4 = zz72_a6 out4 := by kernel_rfl
theorem zz72_in6 (N : Nat) (p1 : Y2) (out4 : (List (Int × (Int × Unit)))) (all5 : Y4) (i6 : Int) : zz72_R6 N N (zz72_K6 N) p1 out4 all5 i6 = zz72_F6 N p1 out4 all5 i6 :=
  have h : zz72_X6 (zz72_k6 N) = (zz72_a6) := (funext fun out4 => zz72_after6 N out4)
  ((iter_ex (fun st => by kernel_rfl) (fun st => by kernel_rfl)).trans (zz72_iter6 N (zz72_k6 N) (fun j st => (zz72_K6 N) (.exit j) st) N p1 out4 all5 i6)).trans (congrArg (fun k => zz72_l6 N k N p1 out4 all5 i6) h)
theorem run0_zz72 (N : Nat) (x : (S_zz72).a.den) : runF (A_zz72) N Try.f26 S_zz72 x = (zz72_s (zz72_R6 N N (zz72_K6 N)) x.1) := by kernel_rfl
theorem run_zz72 (N : Nat) (x : (S_zz72).a.den) : runF (A_zz72) N Try.f26 S_zz72 x = zz72 N x.1 := by
  refine (run0_zz72 N x).trans ?_
  rw [(funext fun p1 => (funext fun out4 => (funext fun all5 => (funext fun i6 => zz72_in6 N p1 out4 all5 i6))))]
  rfl
theorem fn_zz72 : FnOk Try.prog 26 := ⟨_, Try.func26, by kernel_rfl, by kernel_rfl⟩
theorem good_zz72 : Gx.Good Try.prog 26 S_zz72 := good_of_run Try.func26 (of_decide_eq_true (by kernel_rfl)) fun x r h => ⟨A_zz72, big, mkCfg_ok tabOk, mkCfg_sigs (show SigsOk Try.prog [(47, S_zz15), (61, S_zz18), (50, S_zz33)] from ⟨⟨fn_zz15, good_zz15⟩, ⟨fn_zz18, good_zz18⟩, ⟨fn_zz33, good_zz33⟩, trivial⟩), (run_zz72 big x).trans h⟩

/-! zz73 -/
def zz73_b9 (rec : Y1 → (List (Int × (Int × Unit))) → Int → Y4 → Int → Int → Y4 → Int → Int → Option (((List (Int × (Int × Unit))) × (Bool × Unit)) × Unit)) (k : Y1 → (List (Int × (Int × Unit))) → Y4 → Int → Int → Option (((List (Int × (Int × Unit))) × (Bool × Unit)) × Unit)) (l4 : Y1) (list6 : (List (Int × (Int × Unit)))) (j8 : Int) (t21 : Y4) (t22 : Int) (t23 : Int) (t30 : Y4) (t31 : Int) (t32 : Int) : Option (((List (Int × (Int × Unit))) × (Bool × Unit)) × Unit) :=
  cond (decide (t32 < t31))
  ((atI t30 t32).bind fun _ =>
  (t30[t32.toNat]?).bind fun xq5 =>
  cond (decide (j8 ≠ xq5))
  ((appI list6 [(j8, (xq5, ()))]).bind fun xq6 =>
  rec l4 xq6 j8 t21 t22 t23 t30 t31 (IntKind.i64.wrap (t32 + (1 : Int))))
  (rec l4 list6 j8 t21 t22 t23 t30 t31 (IntKind.i64.wrap (t32 + (1 : Int)))))
  (k l4 list6 t21 t22 t23)
def zz73_a9 (rec : Y1 → (List (Int × (Int × Unit))) → Y4 → Int → Int → Option (((List (Int × (Int × Unit))) × (Bool × Unit)) × Unit)) (l4 : Y1) (list6 : (List (Int × (Int × Unit)))) (t21 : Y4) (t22 : Int) (t23 : Int) : Option (((List (Int × (Int × Unit))) × (Bool × Unit)) × Unit) :=
  rec l4 list6 t21 t22 (IntKind.i64.wrap (t23 + (1 : Int)))
def zz73_b6 (L9 : Y1 → (List (Int × (Int × Unit))) → Int → Y4 → Int → Int → Y4 → Int → Int → Option (((List (Int × (Int × Unit))) × (Bool × Unit)) × Unit)) (k : (List (Int × (Int × Unit))) → Option (((List (Int × (Int × Unit))) × (Bool × Unit)) × Unit)) (l4 : Y1) (list6 : (List (Int × (Int × Unit)))) (t21 : Y4) (t22 : Int) (t23 : Int) : Option (((List (Int × (Int × Unit))) × (Bool × Unit)) × Unit) :=
  cond (decide (t23 < t22))
  ((atI t21 t23).bind fun _ =>
  (t21[t23.toNat]?).bind fun xq3 =>
  (zz66 l4 [xq3]).bind fun rq4 =>
  L9 l4 list6 xq3 t21 t22 t23 rq4.1 (rq4.1.length : Int) (0 : Int))
  (k list6)
def zz73_a6 (list6 : (List (Int × (Int × Unit)))) : Option (((List (Int × (Int × Unit))) × (Bool × Unit)) × Unit) :=
  some ((list6, true, ()), (()))
def zz73_s (L6 : Y1 → (List (Int × (Int × Unit))) → Y4 → Int → Int → Option (((List (Int × (Int × Unit))) × (Bool × Unit)) × Unit)) (p_0 : Y2) : Option (((List (Int × (Int × Unit))) × (Bool × Unit)) × Unit) :=
  (zz46 p_0).bind fun rq1 =>
  cond (!rq1.1.2.1)
  (some (([], false, ()), (())))
  ((zz64 rq1.1.1).bind fun rq2 =>
  L6 rq1.1.1 [] rq2.1 (rq2.1.length : Int) (0 : Int))
def zz73_l9 (N : Nat) (k : Y1 → (List (Int × (Int × Unit))) → Y4 → Int → Int → Option (((List (Int × (Int × Unit))) × (Bool × Unit)) × Unit)) : Nat → Y1 → (List (Int × (Int × Unit))) → Int → Y4 → Int → Int → Y4 → Int → Int → Option (((List (Int × (Int × Unit))) × (Bool × Unit)) × Unit)
  | 0, _, _, _, _, _, _, _, _, _ => none
  | m + 1, l4, list6, j8, t21, t22, t23, t30, t31, t32 => zz73_b9 (zz73_l9 N k m) k l4 list6 j8 t21 t22 t23 t30 t31 t32
def zz73_F9 (N : Nat) (rec : Y1 → (List (Int × (Int × Unit))) → Y4 → Int → Int → Option (((List (Int × (Int × Unit))) × (Bool × Unit)) × Unit)) (k : (List (Int × (Int × Unit))) → Option (((List (Int × (Int × Unit))) × (Bool × Unit)) × Unit)) (l4 : Y1) (list6 : (List (Int × (Int × Unit)))) (j8 : Int) (t21 : Y4) (t22 : Int) (t23 : Int) (t30 : Y4) (t31 : Int) (t32 : Int) : Option (((List (Int × (Int × Unit))) × (Bool × Unit)) × Unit) := zz73_l9 N (zz73_a9 rec) N l4 list6 j8 t21 t22 t23 t30 t31 t32
def zz73_l6 (N : Nat) (k : (List (Int × (Int × Unit))) → Option (((List (Int × (Int × Unit))) × (Bool × Unit)) × Unit)) : Nat → Y1 → (List (Int × (Int × Unit))) → Y4 → Int → Int → Option (((List (Int × (Int × Unit))) × (Bool × Unit)) × Unit)
  | 0, _, _, _, _, _ => none
  | m + 1, l4, list6, t21, t22, t23 => zz73_b6 (zz73_F9 N (zz73_l6 N k m) k) k l4 list6 t21 t22 t23
def zz73_F6 (N : Nat) (l4 : Y1) (list6 : (List (Int × (Int × Unit)))) (t21 : Y4) (t22 : Int) (t23 : Int) : Option (((List (Int × (Int × Unit))) × (Bool × Unit)) × Unit) := zz73_l6 N (zz73_a6) N l4 list6 t21 t22 t23
def zz73 (N : Nat) (p_0 : Y2) : Option (((List (Int × (Int × Unit))) × (Bool × Unit)) × Unit) := zz73_s (zz73_F6 N) p_0
def S_zz73 : Sig := { a := (.pair (.pair (.sl (.sl I)) .unit) .unit), md := [0], mf := [], m := .unit, r := (.tup (.pair (.sl (.pair I (.pair I .unit))) (.pair .bool .unit))), rf := (.p (.o .i) .i), f := fun x => zz73 big x.1 }
def A_zz73 : Cfg := mkCfg tab [(51, S_zz46), (62, S_zz64), (54, S_zz66)] [(12, [.drop, .drop, .drop, .drop, .as (.opt (.pair (.sl (.sl .bool)) (.pair (.sl (.sl I)) (.pair (.sl (.sl I)) .unit)))) .i, .drop, .as (.sl (.pair I (.pair I .unit))) (.o .i), .drop, .drop, .drop, .drop, .drop, .drop, .drop, .drop, .drop, .drop, .drop, .drop, .drop, .drop, .as (.sl I) (.o .i), .as I .i, .as I .i]), (18, [.drop, .drop, .drop, .drop, .as (.opt (.pair (.sl (.sl .bool)) (.pair (.sl (.sl I)) (.pair (.sl (.sl I)) .unit)))) .i, .drop, .as (.sl (.pair I (.pair I .unit))) (.o .i), .drop, .as I .i, .drop, .drop, .drop, .drop, .drop, .drop, .drop, .drop, .drop, .drop, .drop, .drop, .as (.sl I) (.o .i), .as I .i, .as I .i, .drop, .drop, .drop, .drop, .drop, .drop, .as (.sl I) (.o .i), .as I .i, .as I .i]), (31, [.drop, .drop, .drop, .drop, .drop, .drop, .as (.sl (.pair I (.pair I .unit))) (.o .i)]), (29, [.drop, .drop, .drop, .drop, .as (.opt (.pair (.sl (.sl .bool)) (.pair (.sl (.sl I)) (.pair (.sl (.sl I)) .unit)))) .i, .drop, .as (.sl (.pair I (.pair I .unit))) (.o .i), .drop, .drop, .drop, .drop, .drop, .drop, .drop, .drop, .drop, .drop, .drop, .drop, .drop, .drop, .as (.sl I) (.o .i), .as I .i, .as I .i])]
noncomputable def zz73_R6 (N n : Nat) (K : Ex → St → Option (((List (Int × (Int × Unit))) × (Bool × Unit)) × Unit)) (l4 : Y1) (list6 : (List (Int × (Int × Unit)))) (t21 : Y4) (t22 : Int) (t23 : Int) : Option (((List (Int × (Int × Unit))) × (Bool × Unit)) × Unit) := iter ((A_zz73).shape 12) (run (A_zz73) N (codeAt Try.f27 [1, 1, 1, 1, 0, 1, 0, 0])) n ([.u, .u, .u, .u, .val (.opt (.pair (.sl (.sl .bool)) (.pair (.sl (.sl I)) (.pair (.sl (.sl I)) .unit)))) .i l4, .u, .val (.sl (.pair I (.pair I .unit))) (.o .i) list6, .u, .u, .u, .u, .u, .u, .u, .u, .u, .u, .u, .u, .u, .u, .val (.sl I) (.o .i) t21, .val I .i t22, .val I .i t23] ++ List.replicate 24 .u) K
noncomputable def zz73_R9 (N n : Nat) (K : Ex → St → Option (((List (Int × (Int × Unit))) × (Bool × Unit)) × Unit)) (l4 : Y1) (list6 : (List (Int × (Int × Unit)))) (j8 : Int) (t21 : Y4) (t22 : Int) (t23 : Int) (t30 : Y4) (t31 : Int) (t32 : Int) : Option (((List (Int × (Int × Unit))) × (Bool × Unit)) × Unit) := iter ((A_zz73).shape 18) (run (A_zz73) N (codeAt Try.f27 [1, 1, 1, 1, 0, 1, 0, 0, 1, 1, 0, 0, 1, 1, 0, 0])) n ([.u, .u, .u, .u, .val (.opt (.pair (.sl (.sl .bool)) (.pair (.sl (.sl I)) (.pair (.sl (.sl I)) .unit)))) .i l4, .u, .val (.sl (.pair I (.pair I .unit))) (.o .i) list6, .u, .val I .i j8, .u, .u, .u, .u, .u, .u, .u, .u, .u, .u, .u, .u, .val (.sl I) (.o .i) t21, .val I .i t22, .val I .i t23, .u, .u, .u, .u, .u, .u, .val (.sl I) (.o .i) t30, .val I .i t31, .val I .i t32] ++ List.replicate 15 .u) K
noncomputable abbrev zz73_z : Ex → St → Option (((List (Int × (Int × Unit))) × (Bool × Unit)) × Unit) := finish (A_zz73) S_zz73 Try.f27.results.toList
noncomputable abbrev zz73_X6 (kX : St → Option (((List (Int × (Int × Unit))) × (Bool × Unit)) × Unit)) : (List (Int × (Int × Unit))) → Option (((List (Int × (Int × Unit))) × (Bool × Unit)) × Unit) := fun (list6 : (List (Int × (Int × Unit)))) => kX ([.u, .u, .u, .u, .u, .u, .val (.sl (.pair I (.pair I .unit))) (.o .i) list6] ++ List.replicate 41 .u)
noncomputable abbrev zz73_E6 (kX : St → Option (((List (Int × (Int × Unit))) × (Bool × Unit)) × Unit)) (kO : Nat → St → Option (((List (Int × (Int × Unit))) × (Bool × Unit)) × Unit)) : Ex → St → Option (((List (Int × (Int × Unit))) × (Bool × Unit)) × Unit) := exK zz73_z 0 ((A_zz73).shape 31) kX kO
noncomputable abbrev zz73_X9 (kX : St → Option (((List (Int × (Int × Unit))) × (Bool × Unit)) × Unit)) : Y1 → (List (Int × (Int × Unit))) → Y4 → Int → Int → Option (((List (Int × (Int × Unit))) × (Bool × Unit)) × Unit) := fun (l4 : Y1) (list6 : (List (Int × (Int × Unit)))) (t21 : Y4) (t22 : Int) (t23 : Int) => kX ([.u, .u, .u, .u, .val (.opt (.pair (.sl (.sl .bool)) (.pair (.sl (.sl I)) (.pair (.sl (.sl I)) .unit)))) .i l4, .u, .val (.sl (.pair I (.pair I .unit))) (.o .i) list6, .u, .u, .u, .u, .u, .u, .u, .u, .u, .u, .u, .u, .u, .u, .val (.sl I) (.o .i) t21, .val I .i t22, .val I .i t23] ++ List.replicate 24 .u)
noncomputable abbrev zz73_E9 (kX : St → Option (((List (Int × (Int × Unit))) × (Bool × Unit)) × Unit)) (kO : Nat → St → Option (((List (Int × (Int × Unit))) × (Bool × Unit)) × Unit)) : Ex → St → Option (((List (Int × (Int × Unit))) × (Bool × Unit)) × Unit) := exK zz73_z 2 ((A_zz73).shape 29) kX kO
theorem zz73_step9 (N : Nat) (m : Nat) (kX : St → Option (((List (Int × (Int × Unit))) × (Bool × Unit)) × Unit)) (kO : Nat → St → Option (((List (Int × (Int × Unit))) × (Bool × Unit)) × Unit)) (l4 : Y1) (list6 : (List (Int × (Int × Unit)))) (j8 : Int) (t21 : Y4) (t22 : Int) (t23 : Int) (t30 : Y4) (t31 : Int) (t32 : Int) : zz73_R9 N (m + 1) (zz73_E9 kX kO) l4 list6 j8 t21 t22 t23 t30 t31 t32 = zz73_b9 (zz73_R9 N m (zz73_E9 kX kO)) (zz73_X9 kX) l4 list6 j8 t21 t22 t23 t30 t31 t32 := by kernel_rfl
theorem zz73_iter9 (N : Nat) (kX : St → Option (((List (Int × (Int × Unit))) × (Bool × Unit)) × Unit)) (kO : Nat → St → Option (((List (Int × (Int × Unit))) × (Bool × Unit)) × Unit)) : ∀ (n : Nat) (l4 : Y1) (list6 : (List (Int × (Int × Unit)))) (j8 : Int) (t21 : Y4) (t22 : Int) (t23 : Int) (t30 : Y4) (t31 : Int) (t32 : Int), zz73_R9 N n (zz73_E9 kX kO) l4 list6 j8 t21 t22 t23 t30 t31 t32 = zz73_l9 N (zz73_X9 kX) n l4 list6 j8 t21 t22 t23 t30 t31 t32
  | 0, _, _, _, _, _, _, _, _, _ => rfl
  | m + 1, l4, list6, j8, t21, t22, t23, t30, t31, t32 => by
    have hrec : zz73_R9 N m (zz73_E9 kX kO) = (zz73_l9 N (zz73_X9 kX) m) := (funext fun l4 => (funext fun list6 => (funext fun j8 => (funext fun t21 => (funext fun t22 => (funext fun t23 => (funext fun t30 => (funext fun t31 => (funext fun t32 => zz73_iter9 N kX kO m l4 list6 j8 t21 t22 t23 t30 t31 t32)))))))))
    refine (zz73_step9 N m kX kO l4 list6 j8 t21 t22 t23 t30 t31 t32).trans ?_
    rw [hrec]
    rfl
noncomputable abbrev zz73_K9 (N : Nat) (m : Nat) (kX : St → Option (((List (Int × (Int × Unit))) × (Bool × Unit)) × Unit)) (kO : Nat → St → Option (((List (Int × (Int × Unit))) × (Bool × Unit)) × Unit)) : Ex → St → Option (((List (Int × (Int × Unit))) × (Bool × Unit)) × Unit) := (blockK 2 (blockK 1 (seqK ((A_zz73).shape 29) (run (A_zz73) N (codeAt Try.f27 [1, 1, 1, 1, 0, 1, 0, 0, 1, 1, 1])) (iterK ((A_zz73).shape 12) (run (A_zz73) N (codeAt Try.f27 [1, 1, 1, 1, 0, 1, 0, 0])) m (zz73_E6 kX kO)))))
noncomputable abbrev zz73_k9 (N : Nat) (m : Nat) (kX : St → Option (((List (Int × (Int × Unit))) × (Bool × Unit)) × Unit)) (kO : Nat → St → Option (((List (Int × (Int × Unit))) × (Bool × Unit)) × Unit)) : St → Option (((List (Int × (Int × Unit))) × (Bool × Unit)) × Unit) := fun st' => run (A_zz73) N (codeAt Try.f27 [1, 1, 1, 1, 0, 1, 0, 0, 1, 1, 1]) st' (iterK ((A_zz73).shape 12) (run (A_zz73) N (codeAt Try.f27 [1, 1, 1, 1, 0, 1, 0, 0])) m (zz73_E6 kX kO))
theorem zz73_after9 (N : Nat) (m : Nat) (kX : St → Option (((List (Int × (Int × Unit))) × (Bool × Unit)) × Unit)) (kO : Nat → St → Option (((List (Int × (Int × Unit))) × (Bool × Unit)) × Unit)) (l4 : Y1) (list6 : (List (Int × (Int × Unit)))) (t21 : Y4) (t22 : Int) (t23 : Int) : zz73_X9 (zz73_k9 N m kX kO) l4 list6 t21 t22 t23 = zz73_a9 (zz73_R6 N m (zz73_E6 kX kO)) l4 list6 t21 t22 t23 := by kernel_rfl
theorem zz73_in9 (N : Nat) (m : Nat) (kX : St → Option (((List (Int × (Int × Unit))) × (Bool × Unit)) × Unit)) (kO : Nat → St → Option (((List (Int × (Int × Unit))) × (Bool × Unit)) × Unit)) (recF : Y1 → (List (Int × (Int × Unit))) → Y4 → Int → Int → Option (((List (Int × (Int × Unit))) × (Bool × Unit)) × Unit)) (hrec : zz73_R6 N m (zz73_E6 kX kO) = recF) (l4 : Y1) (list6 : (List (Int × (Int × Unit)))) (j8 : Int) (t21 : Y4) (t22 : Int) (t23 : Int) (t30 : Y4) (t31 : Int) (t32 : Int) : zz73_R9 N N (zz73_K9 N m kX kO) l4 list6 j8 t21 t22 t23 t30 t31 t32 = zz73_F9 N recF (zz73_X6 kX) l4 list6 j8 t21 t22 t23 t30 t31 t32 :=
  have h : zz73_X9 (zz73_k9 N m kX kO) = (zz73_a9 recF) := (funext fun l4 => (funext fun list6 => (funext fun t21 => (funext fun t22 => (funext fun t23 => (zz73_after9 N m kX kO l4 list6 t21 t22 t23).trans (by rw [hrec]))))))
  ((iter_ex (fun st => by kernel_rfl) (fun st => by kernel_rfl)).trans (zz73_iter9 N (zz73_k9 N m kX kO) (fun j st => (zz73_K9 N m kX kO) (.exit j) st) N l4 list6 j8 t21 t22 t23 t30 t31 t32)).trans (congrArg (fun k => zz73_l9 N k N l4 list6 j8 t21 t22 t23 t30 t31 t32) h)
theorem zz73_step6 (N : Nat) (m : Nat) (kX : St → Option (((List (Int × (Int × Unit))) × (Bool × Unit)) × Unit)) (kO : Nat → St → Option (((List (Int × (Int × Unit))) × (Bool × Unit)) × Unit)) (l4 : Y1) (list6 : (List (Int × (Int × Unit)))) (t21 : Y4) (t22 : Int) (t23 : Int) : zz73_R6 N (m + 1) (zz73_E6 kX kO) l4 list6 t21 t22 t23 = zz73_b6 (zz73_R9 N N (zz73_K9 N m kX kO)) (zz73_X6 kX) l4 list6 t21 t22 t23 := by kernel_rfl
theorem zz73_iter6 (N : Nat) (kX : St → Option (((List (Int × (Int × Unit))) × (Bool × Unit)) × Unit)) (kO : Nat → St → Option (((List (Int × (Int × Unit))) × (Bool × Unit)) × Unit)) : ∀ (n : Nat) (l4 : Y1) (list6 : (List (Int × (Int × Unit)))) (t21 : Y4) (t22 : Int) (t23 : Int), zz73_R6 N n (zz73_E6 kX kO) l4 list6 t21 t22 t23 = zz73_l6 N (zz73_X6 kX) n l4 list6 t21 t22 t23
  | 0, _, _, _, _, _ => rfl
  | m + 1, l4, list6, t21, t22, t23 => by
    have hrec : zz73_R6 N m (zz73_E6 kX kO) = (zz73_l6 N (zz73_X6 kX) m) := (funext fun l4 => (funext fun list6 => (funext fun t21 => (funext fun t22 => (funext fun t23 => zz73_iter6 N kX kO m l4 list6 t21 t22 t23)))))
    refine (zz73_step6 N m kX kO l4 list6 t21 t22 t23).trans ?_
    rw [(funext fun l4 => (funext fun list6 => (funext fun j8 => (funext fun t21 => (funext fun t22 => (funext fun t23 => (funext fun t30 => (funext fun t31 => (funext fun t32 => zz73_in9 N m kX kO (zz73_l6 N (zz73_X6 kX) m) hrec l4 list6 j8 t21 t22 t23 t30 t31 t32)))))))))]
    rfl
noncomputable abbrev zz73_K6 (N : Nat) : Ex → St → Option (((List (Int × (Int × Unit))) × (Bool × Unit)) × Unit) := (blockK 0 (seqK ((A_zz73).shape 31) (run (A_zz73) N (codeAt Try.f27 [1, 1, 1, 1, 1])) zz73_z))
noncomputable abbrev zz73_k6 (N : Nat) : St → Option (((List (Int × (Int × Unit))) × (Bool × Unit)) × Unit) := fun st' => run (A_zz73) N (codeAt Try.f27 [1, 1, 1, 1, 1]) st' zz73_z
theorem zz73_after6 (N : Nat) (list6 : (List (Int × (Int × Unit)))) : zz73_X6 (zz73_k6 N) list6 = zz73_a6 list6 := by kernel_rfl
theorem zz73_in6 (N : Nat) (l4 : Y1) (list6 : (List (Int × (Int × Unit)))) (t21 : Y4) (t22 : Int) (t23 : Int) : zz73_R6 N N (zz73_K6 N) l4 list6 t21 t22 t23 = zz73_F6 N l4 list6 t21 t22 t23 :=
  have h : zz73_X6 (zz73_k6 N) = (zz73_a6) := (funext fun list6 => zz73_after6 N list6)
  ((iter_ex (fun st => by kernel_rfl) (fun st => by kernel_rfl)).trans (zz73_iter6 N (zz73_k6 N) (fun j st => (zz73_K6 N) (.exit j) st) N l4 list6 t21 t22 t23)).trans (congrArg (fun k => zz73_l6 N k N l4 list6 t21 t22 t23) h)
theorem run0_zz73 (N : Nat) (x : (S_zz73).a.den) : runF (A_zz73) N Try.f27 S_zz73 x = (zz73_s (zz73_R6 N N (zz73_K6 N)) x.1) := by kernel_rfl
theorem run_zz73 (N : Nat) (x : (S_zz73).a.den) : runF (A_zz73) N Try.f27 S_zz73 x = zz73 N x.1 := by
  refine (run0_zz73 N x).trans ?_
  rw [(funext fun l4 => (funext fun list6 => (funext fun t21 => (funext fun t22 => (funext fun t23 => zz73_in6 N l4 list6 t21 t22 t23)))))]
  rfl
theorem fn_zz73 : FnOk Try.prog 27 := ⟨_, Try.func27, by kernel_rfl, by kernel_rfl⟩
theorem good_zz73 : Gx.Good Try.prog 27 S_zz73 := good_of_run Try.func27 (of_decide_eq_true (by kernel_rfl)) fun x r h => ⟨A_zz73, big, mkCfg_ok tabOk, mkCfg_sigs (show SigsOk Try.prog [(51, S_zz46), (62, S_zz64), (54, S_zz66)] from ⟨⟨fn_zz46, good_zz46⟩, ⟨fn_zz64, good_zz64⟩, ⟨fn_zz66, good_zz66⟩, trivial⟩), (run_zz73 big x).trans h⟩

/-! zz74 -/
def zz74_b2 (rec : (Int × (Int × Unit)) → (Int × (Int × Unit)) → Int → Option (Bool × Unit)) (k : Option (Bool × Unit)) (a2 : (Int × (Int × Unit))) (b3 : (Int × (Int × Unit))) (i5 : Int) : Option (Bool × Unit) :=
  cond (decide (i5 < (2 : Int)))
  (cond (decide (i5 = (0 : Int)))
  (cond (decide (i5 = (0 : Int)))
  (cond (decide (a2.1 ≠ b3.1))
  (some (false, (())))
  (rec a2 b3 (IntKind.i64.wrap (i5 + (1 : Int)))))
  (cond (decide (i5 = (1 : Int)))
  (cond (decide (a2.1 ≠ b3.2.1))
  (some (false, (())))
  (rec a2 b3 (IntKind.i64.wrap (i5 + (1 : Int)))))
  (none)))
  (cond (decide (i5 = (1 : Int)))
  (cond (decide (i5 = (0 : Int)))
  (cond (decide (a2.2.1 ≠ b3.1))
  (some (false, (())))
  (rec a2 b3 (IntKind.i64.wrap (i5 + (1 : Int)))))
  (cond (decide (i5 = (1 : Int)))
  (cond (decide (a2.2.1 ≠ b3.2.1))
  (some (false, (())))
  (rec a2 b3 (IntKind.i64.wrap (i5 + (1 : Int)))))
  (none)))
  (none)))
  (k)
def zz74_a2 : Option (Bool × Unit) :=
  some (true, (()))
def zz74_s (L2 : (Int × (Int × Unit)) → (Int × (Int × Unit)) → Int → Option (Bool × Unit)) (a_0 : (Int × (Int × Unit))) (b_1 : (Int × (Int × Unit))) : Option (Bool × Unit) :=
  L2 a_0 b_1 (0 : Int)
def zz74_l2 (N : Nat) (k : Option (Bool × Unit)) : Nat → (Int × (Int × Unit)) → (Int × (Int × Unit)) → Int → Option (Bool × Unit)
  | 0, _, _, _ => none
  | m + 1, a2, b3, i5 => zz74_b2 (zz74_l2 N k m) k a2 b3 i5
def zz74_F2 (N : Nat) (a2 : (Int × (Int × Unit))) (b3 : (Int × (Int × Unit))) (i5 : Int) : Option (Bool × Unit) := zz74_l2 N (zz74_a2) N a2 b3 i5
def zz74 (N : Nat) (a_0 : (Int × (Int × Unit))) (b_1 : (Int × (Int × Unit))) : Option (Bool × Unit) := zz74_s (zz74_F2 N) a_0 b_1
def S_zz74 : Sig := { a := (.pair (.pair I (.pair I .unit)) (.pair (.pair I (.pair I .unit)) .unit)), md := [0, 0], mf := [], m := .unit, r := .bool, rf := .i, f := fun x => zz74 big x.1 x.2.1 }
def A_zz74 : Cfg := mkCfg tab [] [(4, [.drop, .drop, .as (.ptr (.pair I (.pair I .unit))) (.o .i), .as (.ptr (.pair I (.pair I .unit))) (.o .i), .drop, .as I .i]), (13, [])]
noncomputable def zz74_R2 (N n : Nat) (K : Ex → St → Option (Bool × Unit)) (a2 : (Int × (Int × Unit))) (b3 : (Int × (Int × Unit))) (i5 : Int) : Option (Bool × Unit) := iter ((A_zz74).shape 4) (run (A_zz74) N (codeAt Try.f63 [1, 0, 1, 0, 0])) n ([.u, .u, .val (.ptr (.pair I (.pair I .unit))) (.o .i) a2, .val (.ptr (.pair I (.pair I .unit))) (.o .i) b3, .u, .val I .i i5] ++ List.replicate 11 .u) K
noncomputable abbrev zz74_z : Ex → St → Option (Bool × Unit) := finish (A_zz74) S_zz74 Try.f63.results.toList
noncomputable abbrev zz74_X2 (kX : St → Option (Bool × Unit)) : Option (Bool × Unit) := kX ([] ++ List.replicate 17 .u)
noncomputable abbrev zz74_E2 (kX : St → Option (Bool × Unit)) (kO : Nat → St → Option (Bool × Unit)) : Ex → St → Option (Bool × Unit) := exK zz74_z 0 ((A_zz74).shape 13) kX kO
theorem zz74_step2 (N : Nat) (m : Nat) (kX : St → Option (Bool × Unit)) (kO : Nat → St → Option (Bool × Unit)) (a2 : (Int × (Int × Unit))) (b3 : (Int × (Int × Unit))) (i5 : Int) : zz74_R2 N (m + 1) (zz74_E2 kX kO) a2 b3 i5 = zz74_b2 (zz74_R2 N m (zz74_E2 kX kO)) (zz74_X2 kX) a2 b3 i5 := by kernel_rfl
theorem zz74_iter2 (N : Nat) (kX : St → Option (Bool × Unit)) (kO : Nat → St → Option (Bool × Unit)) : ∀ (n : Nat) (a2 : (Int × (Int × Unit))) (b3 : (Int × (Int × Unit))) (i5 : Int), zz74_R2 N n (zz74_E2 kX kO) a2 b3 i5 = zz74_l2 N (zz74_X2 kX) n a2 b3 i5
  | 0, _, _, _ => rfl
  | m + 1, a2, b3, i5 => by
    have hrec : zz74_R2 N m (zz74_E2 kX kO) = (zz74_l2 N (zz74_X2 kX) m) := (funext fun a2 => (funext fun b3 => (funext fun i5 => zz74_iter2 N kX kO m a2 b3 i5)))
    refine (zz74_step2 N m kX kO a2 b3 i5).trans ?_
    rw [hrec]
    rfl
noncomputable abbrev zz74_K2 (N : Nat) : Ex → St → Option (Bool × Unit) := (blockK 0 (seqK ((A_zz74).shape 13) (run (A_zz74) N (codeAt Try.f63 [1, 1])) zz74_z))
noncomputable abbrev zz74_k2 (N : Nat) : St → Option (Bool × Unit) := fun st' => run (A_zz74) N (codeAt Try.f63 [1, 1]) st' zz74_z
theorem zz74_after2 (N : Nat) : zz74_X2 (zz74_k2 N) = zz74_a2 := by kernel_rfl
theorem zz74_in2 (N : Nat) (a2 : (Int × (Int × Unit))) (b3 : (Int × (Int × Unit))) (i5 : Int) : zz74_R2 N N (zz74_K2 N) a2 b3 i5 = zz74_F2 N a2 b3 i5 :=
  have h : zz74_X2 (zz74_k2 N) = (zz74_a2) := zz74_after2 N
  ((iter_ex (fun st => by kernel_rfl) (fun st => by kernel_rfl)).trans (zz74_iter2 N (zz74_k2 N) (fun j st => (zz74_K2 N) (.exit j) st) N a2 b3 i5)).trans (congrArg (fun k => zz74_l2 N k N a2 b3 i5) h)
theorem run0_zz74 (N : Nat) (x : (S_zz74).a.den) : runF (A_zz74) N Try.f63 S_zz74 x = (zz74_s (zz74_R2 N N (zz74_K2 N)) x.1 x.2.1) := by kernel_rfl
theorem run_zz74 (N : Nat) (x : (S_zz74).a.den) : runF (A_zz74) N Try.f63 S_zz74 x = zz74 N x.1 x.2.1 := by
  refine (run0_zz74 N x).trans ?_
  rw [(funext fun a2 => (funext fun b3 => (funext fun i5 => zz74_in2 N a2 b3 i5)))]
  rfl
theorem fn_zz74 : FnOk Try.prog 63 := ⟨_, Try.func63, by kernel_rfl, by kernel_rfl⟩
theorem good_zz74 : Gx.Good Try.prog 63 S_zz74 := good_of_run Try.func63 (of_decide_eq_true (by kernel_rfl)) fun x r h => ⟨A_zz74, big, mkCfg_ok tabOk, mkCfg_sigs (show SigsOk Try.prog [] from trivial), (run_zz74 big x).trans h⟩

/-! zz75 -/
def zz75_b4 (rec : (List (Int × (Int × Unit))) → (List (Int × (Int × Unit))) → Int → Option (Bool × Unit)) (k : Option (Bool × Unit)) (a0 : (List (Int × (Int × Unit)))) (b1 : (List (Int × (Int × Unit)))) (i5 : Int) : Option (Bool × Unit) :=
  cond (decide (i5 < (a0.length : Int)))
  ((atI a0 i5).bind fun xq1 =>
  (atI b1 i5).bind fun xq2 =>
  (zz74 big xq1 xq2).bind fun rq3 =>
  cond (!rq3.1)
  (some (false, (())))
  (rec a0 b1 (IntKind.i64.wrap (i5 + (1 : Int)))))
  (k)
def zz75_a4 : Option (Bool × Unit) :=
  some (true, (()))
def zz75_s (L4 : (List (Int × (Int × Unit))) → (List (Int × (Int × Unit))) → Int → Option (Bool × Unit)) (a_0 : (List (Int × (Int × Unit)))) (b_1 : (List (Int × (Int × Unit)))) : Option (Bool × Unit) :=
  cond (decide ((a_0.length : Int) ≠ (b_1.length : Int)))
  (some (false, (())))
  (L4 a_0 b_1 (0 : Int))
def zz75_l4 (N : Nat) (k : Option (Bool × Unit)) : Nat → (List (Int × (Int × Unit))) → (List (Int × (Int × Unit))) → Int → Option (Bool × Unit)
  | 0, _, _, _ => none
  | m + 1, a0, b1, i5 => zz75_b4 (zz75_l4 N k m) k a0 b1 i5
def zz75_F4 (N : Nat) (a0 : (List (Int × (Int × Unit)))) (b1 : (List (Int × (Int × Unit)))) (i5 : Int) : Option (Bool × Unit) := zz75_l4 N (zz75_a4) N a0 b1 i5
def zz75 (N : Nat) (a_0 : (List (Int × (Int × Unit)))) (b_1 : (List (Int × (Int × Unit)))) : Option (Bool × Unit) := zz75_s (zz75_F4 N) a_0 b_1
def S_zz75 : Sig := { a := (.pair (.sl (.pair I (.pair I .unit))) (.pair (.sl (.pair I (.pair I .unit))) .unit)), md := [0, 0], mf := [], m := .unit, r := .bool, rf := .i, f := fun x => zz75 big x.1 x.2.1 }
def A_zz75 : Cfg := mkCfg tab [(63, S_zz74)] [(8, [.as (.sl (.pair I (.pair I .unit))) .i, .as (.sl (.pair I (.pair I .unit))) .i, .drop, .drop, .drop, .as I .i]), (17, [])]
noncomputable def zz75_R4 (N n : Nat) (K : Ex → St → Option (Bool × Unit)) (a0 : (List (Int × (Int × Unit)))) (b1 : (List (Int × (Int × Unit)))) (i5 : Int) : Option (Bool × Unit) := iter ((A_zz75).shape 8) (run (A_zz75) N (codeAt Try.f28 [1, 1, 0, 1, 0, 0])) n ([.val (.sl (.pair I (.pair I .unit))) .i a0, .val (.sl (.pair I (.pair I .unit))) .i b1, .u, .u, .u, .val I .i i5] ++ List.replicate 21 .u) K
noncomputable abbrev zz75_z : Ex → St → Option (Bool × Unit) := finish (A_zz75) S_zz75 Try.f28.results.toList
noncomputable abbrev zz75_X4 (kX : St → Option (Bool × Unit)) : Option (Bool × Unit) := kX ([] ++ List.replicate 27 .u)
noncomputable abbrev zz75_E4 (kX : St → Option (Bool × Unit)) (kO : Nat → St → Option (Bool × Unit)) : Ex → St → Option (Bool × Unit) := exK zz75_z 0 ((A_zz75).shape 17) kX kO
theorem zz75_step4 (N : Nat) (m : Nat) (kX : St → Option (Bool × Unit)) (kO : Nat → St → Option (Bool × Unit)) (a0 : (List (Int × (Int × Unit)))) (b1 : (List (Int × (Int × Unit)))) (i5 : Int) : zz75_R4 N (m + 1) (zz75_E4 kX kO) a0 b1 i5 = zz75_b4 (zz75_R4 N m (zz75_E4 kX kO)) (zz75_X4 kX) a0 b1 i5 := by kernel_rfl
theorem zz75_iter4 (N : Nat) (kX : St → Option (Bool × Unit)) (kO : Nat → St → Option (Bool × Unit)) : ∀ (n : Nat) (a0 : (List (Int × (Int × Unit)))) (b1 : (List (Int × (Int × Unit)))) (i5 : Int), zz75_R4 N n (zz75_E4 kX kO) a0 b1 i5 = zz75_l4 N (zz75_X4 kX) n a0 b1 i5
  | 0, _, _, _ => rfl
  | m + 1, a0, b1, i5 => by
    have hrec : zz75_R4 N m (zz75_E4 kX kO) = (zz75_l4 N (zz75_X4 kX) m) := (funext fun a0 => (funext fun b1 => (funext fun i5 => zz75_iter4 N kX kO m a0 b1 i5)))
    refine (zz75_step4 N m kX kO a0 b1 i5).trans ?_
    rw [hrec]
    rfl
noncomputable abbrev zz75_K4 (N : Nat) : Ex → St → Option (Bool × Unit) := (blockK 0 (seqK ((A_zz75).shape 17) (run (A_zz75) N (codeAt Try.f28 [1, 1, 1])) zz75_z))
noncomputable abbrev zz75_k4 (N : Nat) : St → Option (Bool × Unit) := fun st' => run (A_zz75) N (codeAt Try.f28 [1, 1, 1]) st' zz75_z
theorem zz75_after4 (N : Nat) : zz75_X4 (zz75_k4 N) = zz75_a4 := by kernel_rfl
theorem zz75_in4 (N : Nat) (a0 : (List (Int × (Int × Unit)))) (b1 : (List (Int × (Int × Unit)))) (i5 : Int) : zz75_R4 N N (zz75_K4 N) a0 b1 i5 = zz75_F4 N a0 b1 i5 :=
  have h : zz75_X4 (zz75_k4 N) = (zz75_a4) := zz75_after4 N
  ((iter_ex (fun st => by kernel_rfl) (fun st => by kernel_rfl)).trans (zz75_iter4 N (zz75_k4 N) (fun j st => (zz75_K4 N) (.exit j) st) N a0 b1 i5)).trans (congrArg (fun k => zz75_l4 N k N a0 b1 i5) h)
theorem run0_zz75 (N : Nat) (x : (S_zz75).a.den) : runF (A_zz75) N Try.f28 S_zz75 x = (zz75_s (zz75_R4 N N (zz75_K4 N)) x.1 x.2.1) := by kernel_rfl
theorem run_zz75 (N : Nat) (x : (S_zz75).a.den) : runF (A_zz75) N Try.f28 S_zz75 x = zz75 N x.1 x.2.1 := by
  refine (run0_zz75 N x).trans ?_
  rw [(funext fun a0 => (funext fun b1 => (funext fun i5 => zz75_in4 N a0 b1 i5)))]
  rfl
theorem fn_zz75 : FnOk Try.prog 28 := ⟨_, Try.func28, by kernel_rfl, by kernel_rfl⟩
theorem good_zz75 : Gx.Good Try.prog 28 S_zz75 := good_of_run Try.func28 (of_decide_eq_true (by kernel_rfl)) fun x r h => ⟨A_zz75, big, mkCfg_ok tabOk, mkCfg_sigs (show SigsOk Try.prog [(63, S_zz74)] from ⟨⟨fn_zz74, good_zz74⟩, trivial⟩), (run_zz75 big x).trans h⟩

/-! zz76 -/
def zz76_b2 (rec : Y4 → Int → Int → Option Y6) (k : Y4 → Int → Option Y6) (a0 : Y4) (k1 : Int) (i5 : Int) : Option Y6 :=
  cond (decide (i5 < (a0.length : Int)))
  ((atI a0 i5).bind fun _ =>
  (a0[i5.toNat]?).bind fun xq1 =>
  rec (a0.set i5.toNat k1) (IntKind.i64.wrap (k1 + (1 : Int))) (IntKind.i64.wrap (i5 + (1 : Int))))
  (k a0 k1)
def zz76_a2 (a0 : Y4) (k1 : Int) : Option Y6 :=
  some (k1, (a0, ()))
def zz76_s (L2 : Y4 → Int → Int → Option Y6) (a_0 : Y4) (k_1 : Int) : Option Y6 :=
  L2 a_0 k_1 (0 : Int)
def zz76_l2 (N : Nat) (k : Y4 → Int → Option Y6) : Nat → Y4 → Int → Int → Option Y6
  | 0, _, _, _ => none
  | m + 1, a0, k1, i5 => zz76_b2 (zz76_l2 N k m) k a0 k1 i5
def zz76_F2 (N : Nat) (a0 : Y4) (k1 : Int) (i5 : Int) : Option Y6 := zz76_l2 N (zz76_a2) N a0 k1 i5
def zz76 (N : Nat) (a_0 : Y4) (k_1 : Int) : Option Y6 := zz76_s (zz76_F2 N) a_0 k_1
def S_zz76 : Sig := { a := (.pair (.sl I) (.pair I .unit)), md := [1, 0], mf := [(.o .i)], m := (.pair (.sl I) .unit), r := I, rf := .i, f := fun x => zz76 big x.1 x.2.1 }
def A_zz76 : Cfg := mkCfg tab [] [(4, [.as (.sl I) (.o .i), .as I .i, .drop, .drop, .drop, .as I .i]), (13, [.as (.sl I) (.o .i), .as I .i])]
noncomputable def zz76_R2 (N n : Nat) (K : Ex → St → Option Y6) (a0 : Y4) (k1 : Int) (i5 : Int) : Option Y6 := iter ((A_zz76).shape 4) (run (A_zz76) N (codeAt Try.f24 [1, 0, 1, 0, 0])) n ([.val (.sl I) (.o .i) a0, .val I .i k1, .u, .u, .u, .val I .i i5] ++ List.replicate 13 .u) K
noncomputable abbrev zz76_z : Ex → St → Option Y6 := finish (A_zz76) S_zz76 Try.f24.results.toList
noncomputable abbrev zz76_X2 (kX : St → Option Y6) : Y4 → Int → Option Y6 := fun (a0 : Y4) (k1 : Int) => kX ([.val (.sl I) (.o .i) a0, .val I .i k1] ++ List.replicate 17 .u)
noncomputable abbrev zz76_E2 (kX : St → Option Y6) (kO : Nat → St → Option Y6) : Ex → St → Option Y6 := exK zz76_z 0 ((A_zz76).shape 13) kX kO
theorem zz76_step2 (N : Nat) (m : Nat) (kX : St → Option Y6) (kO : Nat → St → Option Y6) (a0 : Y4) (k1 : Int) (i5 : Int) : zz76_R2 N (m + 1) (zz76_E2 kX kO) a0 k1 i5 = zz76_b2 (zz76_R2 N m (zz76_E2 kX kO)) (zz76_X2 kX) a0 k1 i5 := by kernel_rfl
theorem zz76_iter2 (N : Nat) (kX : St → Option Y6) (kO : Nat → St → Option Y6) : ∀ (n : Nat) (a0 : Y4) (k1 : Int) (i5 : Int), zz76_R2 N n (zz76_E2 kX kO) a0 k1 i5 = zz76_l2 N (zz76_X2 kX) n a0 k1 i5
  | 0, _, _, _ => rfl
  | m + 1, a0, k1, i5 => by
    have hrec : zz76_R2 N m (zz76_E2 kX kO) = (zz76_l2 N (zz76_X2 kX) m) := (funext fun a0 => (funext fun k1 => (funext fun i5 => zz76_iter2 N kX kO m a0 k1 i5)))
    refine (zz76_step2 N m kX kO a0 k1 i5).trans ?_
    rw [hrec]
    rfl
noncomputable abbrev zz76_K2 (N : Nat) : Ex → St → Option Y6 := (blockK 0 (seqK ((A_zz76).shape 13) (run (A_zz76) N (codeAt Try.f24 [1, 1])) zz76_z))
noncomputable abbrev zz76_k2 (N : Nat) : St → Option Y6 := fun st' => run (A_zz76) N (codeAt Try.f24 [1, 1]) st' zz76_z
theorem zz76_after2 (N : Nat) (a0 : Y4) (k1 : Int) : zz76_X2 (zz76_k2 N) a0 k1 = zz76_a2 a0 k1 := by kernel_rfl
theorem zz76_in2 (N : Nat) (a0 : Y4) (k1 : Int) (i5 : Int) : zz76_R2 N N (zz76_K2 N) a0 k1 i5 = zz76_F2 N a0 k1 i5 :=
  have h : zz76_X2 (zz76_k2 N) = (zz76_a2) := (funext fun a0 => (funext fun k1 => zz76_after2 N a0 k1))
  ((iter_ex (fun st => by kernel_rfl) (fun st => by kernel_rfl)).trans (zz76_iter2 N (zz76_k2 N) (fun j st => (zz76_K2 N) (.exit j) st) N a0 k1 i5)).trans (congrArg (fun k => zz76_l2 N k N a0 k1 i5) h)
theorem run0_zz76 (N : Nat) (x : (S_zz76).a.den) : runF (A_zz76) N Try.f24 S_zz76 x = (zz76_s (zz76_R2 N N (zz76_K2 N)) x.1 x.2.1) := by kernel_rfl
theorem run_zz76 (N : Nat) (x : (S_zz76).a.den) : runF (A_zz76) N Try.f24 S_zz76 x = zz76 N x.1 x.2.1 := by
  refine (run0_zz76 N x).trans ?_
  rw [(funext fun a0 => (funext fun k1 => (funext fun i5 => zz76_in2 N a0 k1 i5)))]
  rfl
theorem fn_zz76 : FnOk Try.prog 24 := ⟨_, Try.func24, by kernel_rfl, by kernel_rfl⟩
theorem good_zz76 : Gx.Good Try.prog 24 S_zz76 := good_of_run Try.func24 (of_decide_eq_true (by kernel_rfl)) fun x r h => ⟨A_zz76, big, mkCfg_ok tabOk, mkCfg_sigs (show SigsOk Try.prog [] from trivial), (run_zz76 big x).trans h⟩

/-! zz77 -/
def zz77_b2 (rec : Y3 → Int → Int → Option (Int × Y2)) (k : Y3 → Int → Option (Int × Y2)) (a0 : Y3) (k1 : Int) (i5 : Int) : Option (Int × Y2) :=
  cond (decide (i5 < (a0.length : Int)))
  ((atI a0 i5).bind fun _ =>
  (a0[i5.toNat]?).bind fun xq1 =>
  (a0[i5.toNat]?).bind fun xq2 =>
  (zz76 big xq2 k1).bind fun rq3 =>
  (a0[i5.toNat]?).bind fun xq4 =>
  (a0[i5.toNat]?).bind fun xq5 =>
  rec (a0.set i5.toNat rq3.2.1) rq3.1 (IntKind.i64.wrap (i5 + (1 : Int))))
  (k a0 k1)
def zz77_a2 (a0 : Y3) (k1 : Int) : Option (Int × Y2) :=
  some (k1, (a0, ()))
def zz77_s (L2 : Y3 → Int → Int → Option (Int × Y2)) (a_0 : Y3) (k_1 : Int) : Option (Int × Y2) :=
  L2 a_0 k_1 (0 : Int)
def zz77_l2 (N : Nat) (k : Y3 → Int → Option (Int × Y2)) : Nat → Y3 → Int → Int → Option (Int × Y2)
  | 0, _, _, _ => none
  | m + 1, a0, k1, i5 => zz77_b2 (zz77_l2 N k m) k a0 k1 i5
def zz77_F2 (N : Nat) (a0 : Y3) (k1 : Int) (i5 : Int) : Option (Int × Y2) := zz77_l2 N (zz77_a2) N a0 k1 i5
def zz77 (N : Nat) (a_0 : Y3) (k_1 : Int) : Option (Int × Y2) := zz77_s (zz77_F2 N) a_0 k_1
def S_zz77 : Sig := { a := (.pair (.sl (.sl I)) (.pair I .unit)), md := [1, 0], mf := [(.o (.o .i))], m := (.pair (.sl (.sl I)) .unit), r := I, rf := .i, f := fun x => zz77 big x.1 x.2.1 }
def A_zz77 : Cfg := mkCfg tab [(24, S_zz76)] [(4, [.as (.sl (.sl I)) (.o (.o .i)), .as I .i, .drop, .drop, .drop, .as I .i]), (11, [.as (.sl (.sl I)) (.o (.o .i)), .as I .i])]
noncomputable def zz77_R2 (N n : Nat) (K : Ex → St → Option (Int × Y2)) (a0 : Y3) (k1 : Int) (i5 : Int) : Option (Int × Y2) := iter ((A_zz77).shape 4) (run (A_zz77) N (codeAt Try.f44 [1, 0, 1, 0, 0])) n ([.val (.sl (.sl I)) (.o (.o .i)) a0, .val I .i k1, .u, .u, .u, .val I .i i5] ++ List.replicate 13 .u) K
noncomputable abbrev zz77_z : Ex → St → Option (Int × Y2) := finish (A_zz77) S_zz77 Try.f44.results.toList
noncomputable abbrev zz77_X2 (kX : St → Option (Int × Y2)) : Y3 → Int → Option (Int × Y2) := fun (a0 : Y3) (k1 : Int) => kX ([.val (.sl (.sl I)) (.o (.o .i)) a0, .val I .i k1] ++ List.replicate 17 .u)
noncomputable abbrev zz77_E2 (kX : St → Option (Int × Y2)) (kO : Nat → St → Option (Int × Y2)) : Ex → St → Option (Int × Y2) := exK zz77_z 0 ((A_zz77).shape 11) kX kO
theorem zz77_step2 (N : Nat) (m : Nat) (kX : St → Option (Int × Y2)) (kO : Nat → St → Option (Int × Y2)) (a0 : Y3) (k1 : Int) (i5 : Int) : zz77_R2 N (m + 1) (zz77_E2 kX kO) a0 k1 i5 = zz77_b2 (zz77_R2 N m (zz77_E2 kX kO)) (zz77_X2 kX) a0 k1 i5 := by kernel_rfl
theorem zz77_iter2 (N : Nat) (kX : St → Option (Int × Y2)) (kO : Nat → St → Option (Int × Y2)) : ∀ (n : Nat) (a0 : Y3) (k1 : Int) (i5 : Int), zz77_R2 N n (zz77_E2 kX kO) a0 k1 i5 = zz77_l2 N (zz77_X2 kX) n a0 k1 i5
  | 0, _, _, _ => rfl
  | m + 1, a0, k1, i5 => by
    have hrec : zz77_R2 N m (zz77_E2 kX kO) = (zz77_l2 N (zz77_X2 kX) m) := (funext fun a0 => (funext fun k1 => (funext fun i5 => zz77_iter2 N kX kO m a0 k1 i5)))
    refine (zz77_step2 N m kX kO a0 k1 i5).trans ?_
    rw [hrec]
    rfl
noncomputable abbrev zz77_K2 (N : Nat) : Ex → St → Option (Int × Y2) := (blockK 0 (seqK ((A_zz77).shape 11) (run (A_zz77) N (codeAt Try.f44 [1, 1])) zz77_z))
noncomputable abbrev zz77_k2 (N : Nat) : St → Option (Int × Y2) := fun st' => run (A_zz77) N (codeAt Try.f44 [1, 1]) st' zz77_z
theorem zz77_after2 (N : Nat) (a0 : Y3) (k1 : Int) : zz77_X2 (zz77_k2 N) a0 k1 = zz77_a2 a0 k1 := by kernel_rfl
theorem zz77_in2 (N : Nat) (a0 : Y3) (k1 : Int) (i5 : Int) : zz77_R2 N N (zz77_K2 N) a0 k1 i5 = zz77_F2 N a0 k1 i5 :=
  have h : zz77_X2 (zz77_k2 N) = (zz77_a2) := (funext fun a0 => (funext fun k1 => zz77_after2 N a0 k1))
  ((iter_ex (fun st => by kernel_rfl) (fun st => by kernel_rfl)).trans (zz77_iter2 N (zz77_k2 N) (fun j st => (zz77_K2 N) (.exit j) st) N a0 k1 i5)).trans (congrArg (fun k => zz77_l2 N k N a0 k1 i5) h)
theorem run0_zz77 (N : Nat) (x : (S_zz77).a.den) : runF (A_zz77) N Try.f44 S_zz77 x = (zz77_s (zz77_R2 N N (zz77_K2 N)) x.1 x.2.1) := by kernel_rfl
theorem run_zz77 (N : Nat) (x : (S_zz77).a.den) : runF (A_zz77) N Try.f44 S_zz77 x = zz77 N x.1 x.2.1 := by
  refine (run0_zz77 N x).trans ?_
  rw [(funext fun a0 => (funext fun k1 => (funext fun i5 => zz77_in2 N a0 k1 i5)))]
  rfl
theorem fn_zz77 : FnOk Try.prog 44 := ⟨_, Try.func44, by kernel_rfl, by kernel_rfl⟩
theorem good_zz77 : Gx.Good Try.prog 44 S_zz77 := good_of_run Try.func44 (of_decide_eq_true (by kernel_rfl)) fun x r h => ⟨A_zz77, big, mkCfg_ok tabOk, mkCfg_sigs (show SigsOk Try.prog [(24, S_zz76)] from ⟨⟨fn_zz76, good_zz76⟩, trivial⟩), (run_zz77 big x).trans h⟩

/-! zz78 -/
def zz78 (a_0 : Y2) (k_1 : Int) : Option (Int × (Y2 × Unit)) := (zz77 big a_0.1 k_1).bind fun r => some (r.1, ((r.2.1, ()), ()))
def S_zz78 : Sig := { a := (.pair (.pair (.sl (.sl I)) .unit) (.pair I .unit)), md := [1, 0], mf := [(.p (.o (.o .i)) .i)], m := (.pair (.pair (.sl (.sl I)) .unit) .unit), r := I, rf := .i, f := fun x => zz78 x.1 x.2.1 }
theorem fn_zz78 : FnOk Try.prog 15 := ⟨_, Try.func15, by kernel_rfl, by kernel_rfl⟩
theorem good_zz78 : Gx.Good Try.prog 15 S_zz78   := good_bx1 (A := mkCfg tab [] []) (T := 31) (TS := 22) (mkCfg_ok tabOk) Try.func15 (by kernel_rfl) (by kernel_rfl) fn_zz77 (by kernel_rfl) (by kernel_rfl) good_zz77
end Go.Proofs.Ytmkabioglfeflaa
