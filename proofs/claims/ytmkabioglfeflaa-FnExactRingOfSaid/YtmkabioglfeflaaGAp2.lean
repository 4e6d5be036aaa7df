import Derived.Test.YtmkabioglfeflaaGAp1
set_option maxRecDepth 100000
set_option linter.unusedVariables false
namespace Go.Proofs.Ytmkabioglfeflaa
open Go Go.Gx Go.Proofs

/-! zz38 -/
def zz38_b6 (rec : Y5 → Y4 → Int → Bool → Y4 → Int → Int → Y4 → Int → Int → Option (Int × Unit)) (k : Y5 → Y4 → Int → Bool → Y4 → Int → Int → Option (Int × Unit)) (o0 : Y5) (list1 : Y4) (x6 : Int) (top7 : Bool) (t10 : Y4) (t11 : Int) (t12 : Int) (t16 : Y4) (t17 : Int) (t18 : Int) : Option (Int × Unit) :=
  cond (decide (t18 < t17))
  ((atI t16 t18).bind fun xq2 =>
  cond top7
  ((atI o0 xq2).bind fun xq3 =>
  (atI xq3 x6).bind fun xq4 =>
  rec o0 list1 x6 xq4 t10 t11 t12 t16 t17 (IntKind.i64.wrap (t18 + (1 : Int))))
  (rec o0 list1 x6 false t10 t11 t12 t16 t17 (IntKind.i64.wrap (t18 + (1 : Int)))))
  (k o0 list1 x6 top7 t10 t11 t12)
def zz38_a6 (rec : Y5 → Y4 → Y4 → Int → Int → Option (Int × Unit)) (o0 : Y5) (list1 : Y4) (x6 : Int) (top7 : Bool) (t10 : Y4) (t11 : Int) (t12 : Int) : Option (Int × Unit) :=
  cond top7
  (some (x6, (())))
  (rec o0 list1 t10 t11 (IntKind.i64.wrap (t12 + (1 : Int))))
def zz38_b2 (L6 : Y5 → Y4 → Int → Bool → Y4 → Int → Int → Y4 → Int → Int → Option (Int × Unit)) (k : Option (Int × Unit)) (o0 : Y5) (list1 : Y4) (t10 : Y4) (t11 : Int) (t12 : Int) : Option (Int × Unit) :=
  cond (decide (t12 < t11))
  ((atI t10 t12).bind fun xq1 =>
  L6 o0 list1 xq1 true t10 t11 t12 list1 (list1.length : Int) (0 : Int))
  (k)
def zz38_a2 : Option (Int × Unit) :=
  some ((-1 : Int), (()))
def zz38_s (L2 : Y5 → Y4 → Y4 → Int → Int → Option (Int × Unit)) (o_0 : Y5) (list_1 : Y4) : Option (Int × Unit) :=
  L2 o_0 list_1 list_1 (list_1.length : Int) (0 : Int)
def zz38_l6 (N : Nat) (k : Y5 → Y4 → Int → Bool → Y4 → Int → Int → Option (Int × Unit)) : Nat → Y5 → Y4 → Int → Bool → Y4 → Int → Int → Y4 → Int → Int → Option (Int × Unit)
  | 0, _, _, _, _, _, _, _, _, _, _ => none
  | m + 1, o0, list1, x6, top7, t10, t11, t12, t16, t17, t18 => zz38_b6 (zz38_l6 N k m) k o0 list1 x6 top7 t10 t11 t12 t16 t17 t18
def zz38_F6 (N : Nat) (rec : Y5 → Y4 → Y4 → Int → Int → Option (Int × Unit)) (k : Option (Int × Unit)) (o0 : Y5) (list1 : Y4) (x6 : Int) (top7 : Bool) (t10 : Y4) (t11 : Int) (t12 : Int) (t16 : Y4) (t17 : Int) (t18 : Int) : Option (Int × Unit) := zz38_l6 N (zz38_a6 rec) N o0 list1 x6 top7 t10 t11 t12 t16 t17 t18
def zz38_l2 (N : Nat) (k : Option (Int × Unit)) : Nat → Y5 → Y4 → Y4 → Int → Int → Option (Int × Unit)
  | 0, _, _, _, _, _ => none
  | m + 1, o0, list1, t10, t11, t12 => zz38_b2 (zz38_F6 N (zz38_l2 N k m) k) k o0 list1 t10 t11 t12
def zz38_F2 (N : Nat) (o0 : Y5) (list1 : Y4) (t10 : Y4) (t11 : Int) (t12 : Int) : Option (Int × Unit) := zz38_l2 N (zz38_a2) N o0 list1 t10 t11 t12
def zz38 (N : Nat) (o_0 : Y5) (list_1 : Y4) : Option (Int × Unit) := zz38_s (zz38_F2 N) o_0 list_1
def S_zz38 : Sig := { a := (.pair (.sl (.sl .bool)) (.pair (.sl I) .unit)), md := [0, 0], mf := [], m := .unit, r := I, rf := .i, f := fun x => zz38 big x.1 x.2.1 }
def A_zz38 : Cfg := mkCfg tab [] [(4, [.as (.sl (.sl .bool)) .i, .as (.sl I) .i, .drop, .drop, .drop, .drop, .drop, .drop, .drop, .drop, .as (.sl I) .i, .as I .i, .as I .i]), (12, [.as (.sl (.sl .bool)) .i, .as (.sl I) .i, .drop, .drop, .drop, .drop, .as I .i, .as .bool .i, .drop, .drop, .as (.sl I) .i, .as I .i, .as I .i, .drop, .drop, .drop, .as (.sl I) .i, .as I .i, .as I .i]), (27, []), (21, [.as (.sl (.sl .bool)) .i, .as (.sl I) .i, .drop, .drop, .drop, .drop, .as I .i, .as .bool .i, .drop, .drop, .as (.sl I) .i, .as I .i, .as I .i])]
noncomputable def zz38_R2 (N n : Nat) (K : Ex → St → Option (Int × Unit)) (o0 : Y5) (list1 : Y4) (t10 : Y4) (t11 : Int) (t12 : Int) : Option (Int × Unit) := iter ((A_zz38).shape 4) (run (A_zz38) N (codeAt Try.f150 [1, 0, 1, 0, 0])) n ([.val (.sl (.sl .bool)) .i o0, .val (.sl I) .i list1, .u, .u, .u, .u, .u, .u, .u, .u, .val (.sl I) .i t10, .val I .i t11, .val I .i t12] ++ List.replicate 23 .u) K
noncomputable def zz38_R6 (N n : Nat) (K : Ex → St → Option (Int × Unit)) (o0 : Y5) (list1 : Y4) (x6 : Int) (top7 : Bool) (t10 : Y4) (t11 : Int) (t12 : Int) (t16 : Y4) (t17 : Int) (t18 : Int) : Option (Int × Unit) := iter ((A_zz38).shape 12) (run (A_zz38) N (codeAt Try.f150 [1, 0, 1, 0, 0, 1, 1, 0, 0, 1, 1, 0, 1, 0, 0])) n ([.val (.sl (.sl .bool)) .i o0, .val (.sl I) .i list1, .u, .u, .u, .u, .val I .i x6, .val .bool .i top7, .u, .u, .val (.sl I) .i t10, .val I .i t11, .val I .i t12, .u, .u, .u, .val (.sl I) .i t16, .val I .i t17, .val I .i t18] ++ List.replicate 17 .u) K
noncomputable abbrev zz38_z : Ex → St → Option (Int × Unit) := finish (A_zz38) S_zz38 Try.f150.results.toList
noncomputable abbrev zz38_X2 (kX : St → Option (Int × Unit)) : Option (Int × Unit) := kX ([] ++ List.replicate 36 .u)
noncomputable abbrev zz38_E2 (kX : St → Option (Int × Unit)) (kO : Nat → St → Option (Int × Unit)) : Ex → St → Option (Int × Unit) := exK zz38_z 0 ((A_zz38).shape 27) kX kO
noncomputable abbrev zz38_X6 (kX : St → Option (Int × Unit)) : Y5 → Y4 → Int → Bool → Y4 → Int → Int → Option (Int × Unit) := fun (o0 : Y5) (list1 : Y4) (x6 : Int) (top7 : Bool) (t10 : Y4) (t11 : Int) (t12 : Int) => kX ([.val (.sl (.sl .bool)) .i o0, .val (.sl I) .i list1, .u, .u, .u, .u, .val I .i x6, .val .bool .i top7, .u, .u, .val (.sl I) .i t10, .val I .i t11, .val I .i t12] ++ List.replicate 23 .u)
noncomputable abbrev zz38_E6 (kX : St → Option (Int × Unit)) (kO : Nat → St → Option (Int × Unit)) : Ex → St → Option (Int × Unit) := exK zz38_z 2 ((A_zz38).shape 21) kX kO
theorem zz38_step6 (N : Nat) (m : Nat) (kX : St → Option (Int × Unit)) (kO : Nat → St → Option (Int × Unit)) (o0 : Y5) (list1 : Y4) (x6 : Int) (top7 : Bool) (t10 : Y4) (t11 : Int) (t12 : Int) (t16 : Y4) (t17 : Int) (t18 : Int) : zz38_R6 N (m + 1) (zz38_E6 kX kO) o0 list1 x6 top7 t10 t11 t12 t16 t17 t18 = zz38_b6 (zz38_R6 N m (zz38_E6 kX kO)) (zz38_X6 kX) o0 list1 x6 top7 t10 t11 t12 t16 t17 t18 := by kernel_rfl
theorem zz38_iter6 (N : Nat) (kX : St → Option (Int × Unit)) (kO : Nat → St → Option (Int × Unit)) : ∀ (n : Nat) (o0 : Y5) (list1 : Y4) (x6 : Int) (top7 : Bool) (t10 : Y4) (t11 : Int) (t12 : Int) (t16 : Y4) (t17 : Int) (t18 : Int), zz38_R6 N n (zz38_E6 kX kO) o0 list1 x6 top7 t10 t11 t12 t16 t17 t18 = zz38_l6 N (zz38_X6 kX) n o0 list1 x6 top7 t10 t11 t12 t16 t17 t18
  | 0, _, _, _, _, _, _, _, _, _, _ => rfl
  | m + 1, o0, list1, x6, top7, t10, t11, t12, t16, t17, t18 => by
    have hrec : zz38_R6 N m (zz38_E6 kX kO) = (zz38_l6 N (zz38_X6 kX) m) := (funext fun o0 => (funext fun list1 => (funext fun x6 => (funext fun top7 => (funext fun t10 => (funext fun t11 => (funext fun t12 => (funext fun t16 => (funext fun t17 => (funext fun t18 => zz38_iter6 N kX kO m o0 list1 x6 top7 t10 t11 t12 t16 t17 t18))))))))))
    refine (zz38_step6 N m kX kO o0 list1 x6 top7 t10 t11 t12 t16 t17 t18).trans ?_
    rw [hrec]
    rfl
noncomputable abbrev zz38_K6 (N : Nat) (m : Nat) (kX : St → Option (Int × Unit)) (kO : Nat → St → Option (Int × Unit)) : Ex → St → Option (Int × Unit) := (blockK 2 (seqK ((A_zz38).shape 21) (run (A_zz38) N (codeAt Try.f150 [1, 0, 1, 0, 0, 1, 1, 0, 0, 1, 1, 1])) (blockK 1 (seqK ((A_zz38).shape 25) (run (A_zz38) N (codeAt Try.f150 [1, 0, 1, 0, 0, 1, 1, 1])) (iterK ((A_zz38).shape 4) (run (A_zz38) N (codeAt Try.f150 [1, 0, 1, 0, 0])) m (zz38_E2 kX kO))))))
noncomputable abbrev zz38_k6 (N : Nat) (m : Nat) (kX : St → Option (Int × Unit)) (kO : Nat → St → Option (Int × Unit)) : St → Option (Int × Unit) := fun st' => run (A_zz38) N (codeAt Try.f150 [1, 0, 1, 0, 0, 1, 1, 0, 0, 1, 1, 1]) st' (blockK 1 (seqK ((A_zz38).shape 25) (run (A_zz38) N (codeAt Try.f150 [1, 0, 1, 0, 0, 1, 1, 1])) (iterK ((A_zz38).shape 4) (run (A_zz38) N (codeAt Try.f150 [1, 0, 1, 0, 0])) m (zz38_E2 kX kO))))
theorem zz38_after6 (N : Nat) (m : Nat) (kX : St → Option (Int × Unit)) (kO : Nat → St → Option (Int × Unit)) (o0 : Y5) (list1 : Y4) (x6 : Int) (top7 : Bool) (t10 : Y4) (t11 : Int) (t12 : Int) : zz38_X6 (zz38_k6 N m kX kO) o0 list1 x6 top7 t10 t11 t12 = zz38_a6 (zz38_R2 N m (zz38_E2 kX kO)) o0 list1 x6 top7 t10 t11 t12 := by kernel_rfl
theorem zz38_in6 (N : Nat) (m : Nat) (kX : St → Option (Int × Unit)) (kO : Nat → St → Option (Int × Unit)) (recF : Y5 → Y4 → Y4 → Int → Int → Option (Int × Unit)) (hrec : zz38_R2 N m (zz38_E2 kX kO) = recF) (o0 : Y5) (list1 : Y4) (x6 : Int) (top7 : Bool) (t10 : Y4) (t11 : Int) (t12 : Int) (t16 : Y4) (t17 : Int) (t18 : Int) : zz38_R6 N N (zz38_K6 N m kX kO) o0 list1 x6 top7 t10 t11 t12 t16 t17 t18 = zz38_F6 N recF (zz38_X2 kX) o0 list1 x6 top7 t10 t11 t12 t16 t17 t18 :=
  have h : zz38_X6 (zz38_k6 N m kX kO) = (zz38_a6 recF) := (funext fun o0 => (funext fun list1 => (funext fun x6 => (funext fun top7 => (funext fun t10 => (funext fun t11 => (funext fun t12 => (zz38_after6 N m kX kO o0 list1 x6 top7 t10 t11 t12).trans (by rw [hrec]))))))))
  ((iter_ex (fun st => by kernel_rfl) (fun st => by kernel_rfl)).trans (zz38_iter6 N (zz38_k6 N m kX kO) (fun j st => (zz38_K6 N m kX kO) (.exit j) st) N o0 list1 x6 top7 t10 t11 t12 t16 t17 t18)).trans (congrArg (fun k => zz38_l6 N k N o0 list1 x6 top7 t10 t11 t12 t16 t17 t18) h)
theorem zz38_step2 (N : Nat) (m : Nat) (kX : St → Option (Int × Unit)) (kO : Nat → St → Option (Int × Unit)) (o0 : Y5) (list1 : Y4) (t10 : Y4) (t11 : Int) (t12 : Int) : zz38_R2 N (m + 1) (zz38_E2 kX kO) o0 list1 t10 t11 t12 = zz38_b2 (zz38_R6 N N (zz38_K6 N m kX kO)) (zz38_X2 kX) o0 list1 t10 t11 t12 := by kernel_rfl
theorem zz38_iter2 (N : Nat) (kX : St → Option (Int × Unit)) (kO : Nat → St → Option (Int × Unit)) : ∀ (n : Nat) (o0 : Y5) (list1 : Y4) (t10 : Y4) (t11 : Int) (t12 : Int), zz38_R2 N n (zz38_E2 kX kO) o0 list1 t10 t11 t12 = zz38_l2 N (zz38_X2 kX) n o0 list1 t10 t11 t12
  | 0, _, _, _, _, _ => rfl
  | m + 1, o0, list1, t10, t11, t12 => by
    have hrec : zz38_R2 N m (zz38_E2 kX kO) = (zz38_l2 N (zz38_X2 kX) m) := (funext fun o0 => (funext fun list1 => (funext fun t10 => (funext fun t11 => (funext fun t12 => zz38_iter2 N kX kO m o0 list1 t10 t11 t12)))))
    refine (zz38_step2 N m kX kO o0 list1 t10 t11 t12).trans ?_
    rw [(funext fun o0 => (funext fun list1 => (funext fun x6 => (funext fun top7 => (funext fun t10 => (funext fun t11 => (funext fun t12 => (funext fun t16 => (funext fun t17 => (funext fun t18 => zz38_in6 N m kX kO (zz38_l2 N (zz38_X2 kX) m) hrec o0 list1 x6 top7 t10 t11 t12 t16 t17 t18))))))))))]
    rfl
noncomputable abbrev zz38_K2 (N : Nat) : Ex → St → Option (Int × Unit) := (blockK 0 (seqK ((A_zz38).shape 27) (run (A_zz38) N (codeAt Try.f150 [1, 1])) zz38_z))
noncomputable abbrev zz38_k2 (N : Nat) : St → Option (Int × Unit) := fun st' => run (A_zz38) N (codeAt Try.f150 [1, 1]) st' zz38_z
theorem zz38_after2 (N : Nat) : zz38_X2 (zz38_k2 N) = zz38_a2 := by kernel_rfl
theorem zz38_in2 (N : Nat) (o0 : Y5) (list1 : Y4) (t10 : Y4) (t11 : Int) (t12 : Int) : zz38_R2 N N (zz38_K2 N) o0 list1 t10 t11 t12 = zz38_F2 N o0 list1 t10 t11 t12 :=
  have h : zz38_X2 (zz38_k2 N) = (zz38_a2) := zz38_after2 N
  ((iter_ex (fun st => by kernel_rfl) (fun st => by kernel_rfl)).trans (zz38_iter2 N (zz38_k2 N) (fun j st => (zz38_K2 N) (.exit j) st) N o0 list1 t10 t11 t12)).trans (congrArg (fun k => zz38_l2 N k N o0 list1 t10 t11 t12) h)
theorem run0_zz38 (N : Nat) (x : (S_zz38).a.den) : runF (A_zz38) N Try.f150 S_zz38 x = (zz38_s (zz38_R2 N N (zz38_K2 N)) x.1 x.2.1) := by kernel_rfl
theorem run_zz38 (N : Nat) (x : (S_zz38).a.den) : runF (A_zz38) N Try.f150 S_zz38 x = zz38 N x.1 x.2.1 := by
  refine (run0_zz38 N x).trans ?_
  rw [(funext fun o0 => (funext fun list1 => (funext fun t10 => (funext fun t11 => (funext fun t12 => zz38_in2 N o0 list1 t10 t11 t12)))))]
  rfl
theorem fn_zz38 : FnOk Try.prog 150 := ⟨_, Try.func150, by kernel_rfl, by kernel_rfl⟩
theorem good_zz38 : Gx.Good Try.prog 150 S_zz38 := good_of_run Try.func150 (of_decide_eq_true (by kernel_rfl)) fun x r h => ⟨A_zz38, big, mkCfg_ok tabOk, mkCfg_sigs (show SigsOk Try.prog [] from trivial), (run_zz38 big x).trans h⟩

/-! zz39 -/
def zz39_s (z_0 : Int) (p_1 : Y5) (p_2 : Int) (p_3 : Int) : Option (Bool × Unit) :=
  (atI p_1 z_0).bind fun xq1 =>
  (atI xq1 p_2).bind fun xq2 =>
  cond xq2
  ((atI p_1 z_0).bind fun xq3 =>
  (atI xq3 p_3).bind fun xq4 =>
  some (xq4, (())))
  (some (false, (())))
def zz39 (z_0 : Int) (p_1 : Y5) (p_2 : Int) (p_3 : Int) : Option (Bool × Unit) := zz39_s z_0 p_1 p_2 p_3
def S_zz39 : Sig := { a := (.pair I (.pair (.ptr (.sl (.sl .bool))) (.pair (.ptr I) (.pair (.ptr I) .unit)))), md := [0, 0, 0, 0], mf := [], m := .unit, r := .bool, rf := .i, f := fun x => zz39 x.1 x.2.1 x.2.2.1 x.2.2.2.1 }
def A_zz39 : Cfg := mkCfg tab [] []
theorem run_zz39 (N : Nat) (x : (S_zz39).a.den) : runF (A_zz39) N Try.f151 S_zz39 x = zz39 x.1 x.2.1 x.2.2.1 x.2.2.2.1 := by kernel_rfl
theorem fn_zz39 : FnOk Try.prog 151 := ⟨_, Try.func151, by kernel_rfl, by kernel_rfl⟩
theorem good_zz39 : Gx.Good Try.prog 151 S_zz39 := good_of_run Try.func151 (of_decide_eq_true (by kernel_rfl)) fun x r h => ⟨A_zz39, big, mkCfg_ok tabOk, mkCfg_sigs (show SigsOk Try.prog [] from trivial), (run_zz39 big x).trans h⟩

/-! zz40 -/
def zz40_b3 (rec : (Y5 × (Int × (Int × Unit))) → Y4 → Int → Int → Option (Y4 × Unit)) (k : Y4 → Option (Y4 × Unit)) (so1 : (Y5 × (Int × (Int × Unit)))) (list5 : Y4) (t9 : Int) (t10 : Int) : Option (Y4 × Unit) :=
  cond (decide (t10 < t9))
  ((zz39 t10 so1.1 so1.2.1 so1.2.2.1).bind fun rq1 =>
  cond rq1.1
  ((appI list5 [t10]).bind fun xq2 =>
  rec so1 xq2 t9 (IntKind.i64.wrap (t10 + (1 : Int))))
  (rec so1 list5 t9 (IntKind.i64.wrap (t10 + (1 : Int)))))
  (k list5)
def zz40_a3 (list5 : Y4) : Option (Y4 × Unit) :=
  some (list5, (()))
def zz40_s (L3 : (Y5 × (Int × (Int × Unit))) → Y4 → Int → Int → Option (Y4 × Unit)) (o_0 : Y5) (so_1 : (Y5 × (Int × (Int × Unit)))) : Option (Y4 × Unit) :=
  L3 so_1 [] (o_0.length : Int) (0 : Int)
def zz40_l3 (N : Nat) (k : Y4 → Option (Y4 × Unit)) : Nat → (Y5 × (Int × (Int × Unit))) → Y4 → Int → Int → Option (Y4 × Unit)
  | 0, _, _, _, _ => none
  | m + 1, so1, list5, t9, t10 => zz40_b3 (zz40_l3 N k m) k so1 list5 t9 t10
def zz40_F3 (N : Nat) (so1 : (Y5 × (Int × (Int × Unit)))) (list5 : Y4) (t9 : Int) (t10 : Int) : Option (Y4 × Unit) := zz40_l3 N (zz40_a3) N so1 list5 t9 t10
def zz40 (N : Nat) (o_0 : Y5) (so_1 : (Y5 × (Int × (Int × Unit)))) : Option (Y4 × Unit) := zz40_s (zz40_F3 N) o_0 so_1
def S_zz40 : Sig := { a := (.pair (.sl (.sl .bool)) (.pair (.clo 151 0 (.pair (.ptr (.sl (.sl .bool))) (.pair (.ptr I) (.pair (.ptr I) .unit)))) .unit)), md := [0, 0], mf := [], m := .unit, r := (.sl I), rf := (.o .i), f := fun x => zz40 big x.1 x.2.1 }
def A_zz40 : Cfg := mkCfg tab [(151, S_zz39)] [(6, [.drop, .as (.clo 151 0 (.pair (.ptr (.sl (.sl .bool))) (.pair (.ptr I) (.pair (.ptr I) .unit)))) .i, .drop, .drop, .drop, .as (.sl I) (.o .i), .drop, .drop, .drop, .as I .i, .as I .i]), (17, [.drop, .drop, .drop, .drop, .drop, .as (.sl I) (.o .i)])]
noncomputable def zz40_R3 (N n : Nat) (K : Ex → St → Option (Y4 × Unit)) (so1 : (Y5 × (Int × (Int × Unit)))) (list5 : Y4) (t9 : Int) (t10 : Int) : Option (Y4 × Unit) := iter ((A_zz40).shape 6) (run (A_zz40) N (codeAt Try.f104 [1, 1, 0, 1, 0, 0])) n ([.u, .val (.clo 151 0 (.pair (.ptr (.sl (.sl .bool))) (.pair (.ptr I) (.pair (.ptr I) .unit)))) .i so1, .u, .u, .u, .val (.sl I) (.o .i) list5, .u, .u, .u, .val I .i t9, .val I .i t10] ++ List.replicate 11 .u) K
noncomputable abbrev zz40_z : Ex → St → Option (Y4 × Unit) := finish (A_zz40) S_zz40 Try.f104.results.toList
noncomputable abbrev zz40_X3 (kX : St → Option (Y4 × Unit)) : Y4 → Option (Y4 × Unit) := fun (list5 : Y4) => kX ([.u, .u, .u, .u, .u, .val (.sl I) (.o .i) list5] ++ List.replicate 16 .u)
noncomputable abbrev zz40_E3 (kX : St → Option (Y4 × Unit)) (kO : Nat → St → Option (Y4 × Unit)) : Ex → St → Option (Y4 × Unit) := exK zz40_z 0 ((A_zz40).shape 17) kX kO
theorem zz40_step3 (N : Nat) (m : Nat) (kX : St → Option (Y4 × Unit)) (kO : Nat → St → Option (Y4 × Unit)) (so1 : (Y5 × (Int × (Int × Unit)))) (list5 : Y4) (t9 : Int) (t10 : Int) : zz40_R3 N (m + 1) (zz40_E3 kX kO) so1 list5 t9 t10 = zz40_b3 (zz40_R3 N m (zz40_E3 kX kO)) (zz40_X3 kX) so1 list5 t9 t10 := by kernel_rfl
theorem zz40_iter3 (N : Nat) (kX : St → Option (Y4 × Unit)) (kO : Nat → St → Option (Y4 × Unit)) : ∀ (n : Nat) (so1 : (Y5 × (Int × (Int × Unit)))) (list5 : Y4) (t9 : Int) (t10 : Int), zz40_R3 N n (zz40_E3 kX kO) so1 list5 t9 t10 = zz40_l3 N (zz40_X3 kX) n so1 list5 t9 t10
  | 0, _, _, _, _ => rfl
  | m + 1, so1, list5, t9, t10 => by
    have hrec : zz40_R3 N m (zz40_E3 kX kO) = (zz40_l3 N (zz40_X3 kX) m) := (funext fun so1 => (funext fun list5 => (funext fun t9 => (funext fun t10 => zz40_iter3 N kX kO m so1 list5 t9 t10))))
    refine (zz40_step3 N m kX kO so1 list5 t9 t10).trans ?_
    rw [hrec]
    rfl
noncomputable abbrev zz40_K3 (N : Nat) : Ex → St → Option (Y4 × Unit) := (blockK 0 (seqK ((A_zz40).shape 17) (run (A_zz40) N (codeAt Try.f104 [1, 1, 1])) zz40_z))
noncomputable abbrev zz40_k3 (N : Nat) : St → Option (Y4 × Unit) := fun st' => run (A_zz40) N (codeAt Try.f104 [1, 1, 1]) st' zz40_z
theorem zz40_after3 (N : Nat) (list5 : Y4) : zz40_X3 (zz40_k3 N) list5 = zz40_a3 list5 := by kernel_rfl
theorem zz40_in3 (N : Nat) (so1 : (Y5 × (Int × (Int × Unit)))) (list5 : Y4) (t9 : Int) (t10 : Int) : zz40_R3 N N (zz40_K3 N) so1 list5 t9 t10 = zz40_F3 N so1 list5 t9 t10 :=
  have h : zz40_X3 (zz40_k3 N) = (zz40_a3) := (funext fun list5 => zz40_after3 N list5)
  ((iter_ex (fun st => by kernel_rfl) (fun st => by kernel_rfl)).trans (zz40_iter3 N (zz40_k3 N) (fun j st => (zz40_K3 N) (.exit j) st) N so1 list5 t9 t10)).trans (congrArg (fun k => zz40_l3 N k N so1 list5 t9 t10) h)
theorem run0_zz40 (N : Nat) (x : (S_zz40).a.den) : runF (A_zz40) N Try.f104 S_zz40 x = (zz40_s (zz40_R3 N N (zz40_K3 N)) x.1 x.2.1) := by kernel_rfl
theorem run_zz40 (N : Nat) (x : (S_zz40).a.den) : runF (A_zz40) N Try.f104 S_zz40 x = zz40 N x.1 x.2.1 := by
  refine (run0_zz40 N x).trans ?_
  rw [(funext fun so1 => (funext fun list5 => (funext fun t9 => (funext fun t10 => zz40_in3 N so1 list5 t9 t10))))]
  rfl
theorem fn_zz40 : FnOk Try.prog 104 := ⟨_, Try.func104, by kernel_rfl, by kernel_rfl⟩
theorem good_zz40 : Gx.Good Try.prog 104 S_zz40 := good_of_run Try.func104 (of_decide_eq_true (by kernel_rfl)) fun x r h => ⟨A_zz40, big, mkCfg_ok tabOk, mkCfg_sigs (show SigsOk Try.prog [(151, S_zz39)] from ⟨⟨fn_zz39, good_zz39⟩, trivial⟩), (run_zz40 big x).trans h⟩

/-! zz41 -/
def zz41_b7 (rec : Y5 → Y3 → Int → Y4 → Int → Int → Int → Int → Option ((Y3 × (Bool × Unit)) × Unit)) (k : Y5 → Y3 → Y4 → Int → Int → Option ((Y3 × (Bool × Unit)) × Unit)) (o1 : Y5) (table4 : Y3) (x5 : Int) (row6 : Y4) (t11 : Int) (t12 : Int) (t17 : Int) (t18 : Int) : Option ((Y3 × (Bool × Unit)) × Unit) :=
  cond (decide (t18 < t17))
  ((zz40 big o1 (o1, x5, t18, ())).bind fun rq1 =>
  (zz38 big o1 rq1.1).bind fun rq2 =>
  cond (decide (rq2.1 < (0 : Int)))
  (some (([], false, ()), (())))
  ((appI row6 [rq2.1]).bind fun xq3 =>
  rec o1 table4 x5 xq3 t11 t12 t17 (IntKind.i64.wrap (t18 + (1 : Int)))))
  (k o1 table4 row6 t11 t12)
def zz41_a7 (rec : Y5 → Y3 → Int → Int → Option ((Y3 × (Bool × Unit)) × Unit)) (o1 : Y5) (table4 : Y3) (row6 : Y4) (t11 : Int) (t12 : Int) : Option ((Y3 × (Bool × Unit)) × Unit) :=
  (appI table4 [row6]).bind fun xq4 =>
  rec o1 xq4 t11 (IntKind.i64.wrap (t12 + (1 : Int)))
def zz41_b3 (L7 : Y5 → Y3 → Int → Y4 → Int → Int → Int → Int → Option ((Y3 × (Bool × Unit)) × Unit)) (k : Y3 → Option ((Y3 × (Bool × Unit)) × Unit)) (o1 : Y5) (table4 : Y3) (t11 : Int) (t12 : Int) : Option ((Y3 × (Bool × Unit)) × Unit) :=
  cond (decide (t12 < t11))
  (L7 o1 table4 t12 [] t11 t12 (o1.length : Int) (0 : Int))
  (k table4)
def zz41_a3 (table4 : Y3) : Option ((Y3 × (Bool × Unit)) × Unit) :=
  some ((table4, true, ()), (()))
def zz41_s (L3 : Y5 → Y3 → Int → Int → Option ((Y3 × (Bool × Unit)) × Unit)) (o_0 : Y5) : Option ((Y3 × (Bool × Unit)) × Unit) :=
  L3 o_0 [] (o_0.length : Int) (0 : Int)
def zz41_l7 (N : Nat) (k : Y5 → Y3 → Y4 → Int → Int → Option ((Y3 × (Bool × Unit)) × Unit)) : Nat → Y5 → Y3 → Int → Y4 → Int → Int → Int → Int → Option ((Y3 × (Bool × Unit)) × Unit)
  | 0, _, _, _, _, _, _, _, _ => none
  | m + 1, o1, table4, x5, row6, t11, t12, t17, t18 => zz41_b7 (zz41_l7 N k m) k o1 table4 x5 row6 t11 t12 t17 t18
def zz41_F7 (N : Nat) (rec : Y5 → Y3 → Int → Int → Option ((Y3 × (Bool × Unit)) × Unit)) (k : Y3 → Option ((Y3 × (Bool × Unit)) × Unit)) (o1 : Y5) (table4 : Y3) (x5 : Int) (row6 : Y4) (t11 : Int) (t12 : Int) (t17 : Int) (t18 : Int) : Option ((Y3 × (Bool × Unit)) × Unit) := zz41_l7 N (zz41_a7 rec) N o1 table4 x5 row6 t11 t12 t17 t18
def zz41_l3 (N : Nat) (k : Y3 → Option ((Y3 × (Bool × Unit)) × Unit)) : Nat → Y5 → Y3 → Int → Int → Option ((Y3 × (Bool × Unit)) × Unit)
  | 0, _, _, _, _ => none
  | m + 1, o1, table4, t11, t12 => zz41_b3 (zz41_F7 N (zz41_l3 N k m) k) k o1 table4 t11 t12
def zz41_F3 (N : Nat) (o1 : Y5) (table4 : Y3) (t11 : Int) (t12 : Int) : Option ((Y3 × (Bool × Unit)) × Unit) := zz41_l3 N (zz41_a3) N o1 table4 t11 t12
def zz41 (N : Nat) (o_0 : Y5) : Option ((Y3 × (Bool × Unit)) × Unit) := zz41_s (zz41_F3 N) o_0
def S_zz41 : Sig := { a := (.pair (.sl (.sl .bool)) .unit), md := [0], mf := [], m := .unit, r := (.tup (.pair (.sl (.sl I)) (.pair .bool .unit))), rf := (.p (.o (.o .i)) .i), f := fun x => zz41 big x.1 }
def A_zz41 : Cfg := mkCfg tab [(104, S_zz40), (150, S_zz38)] [(6, [.drop, .as (.ptr (.sl (.sl .bool))) .i, .drop, .drop, .as (.sl (.sl I)) (.o (.o .i)), .drop, .drop, .drop, .drop, .drop, .drop, .as I .i, .as I .i]), (14, [.drop, .as (.ptr (.sl (.sl .bool))) .i, .drop, .drop, .as (.sl (.sl I)) (.o (.o .i)), .as (.ptr I) .i, .as (.sl I) (.o .i), .drop, .drop, .drop, .drop, .as I .i, .as I .i, .drop, .drop, .drop, .drop, .as I .i, .as I .i]), (33, [.drop, .drop, .drop, .drop, .as (.sl (.sl I)) (.o (.o .i))]), (19, [.drop, .as (.ptr (.sl (.sl .bool))) .i, .drop, .drop, .as (.sl (.sl I)) (.o (.o .i)), .as (.ptr I) .i, .as (.sl I) (.o .i), .as (.ptr I) .i, .drop, .drop, .drop, .as I .i, .as I .i, .drop, .drop, .drop, .drop, .as I .i, .as I .i]), (29, [.drop, .as (.ptr (.sl (.sl .bool))) .i, .drop, .drop, .as (.sl (.sl I)) (.o (.o .i)), .drop, .as (.sl I) (.o .i), .drop, .drop, .drop, .drop, .as I .i, .as I .i])]
noncomputable def zz41_R3 (N n : Nat) (K : Ex → St → Option ((Y3 × (Bool × Unit)) × Unit)) (o1 : Y5) (table4 : Y3) (t11 : Int) (t12 : Int) : Option ((Y3 × (Bool × Unit)) × Unit) := iter ((A_zz41).shape 6) (run (A_zz41) N (codeAt Try.f132 [1, 1, 0, 1, 0, 0])) n ([.u, .val (.ptr (.sl (.sl .bool))) .i o1, .u, .u, .val (.sl (.sl I)) (.o (.o .i)) table4, .u, .u, .u, .u, .u, .u, .val I .i t11, .val I .i t12] ++ List.replicate 26 .u) K
noncomputable def zz41_R7 (N n : Nat) (K : Ex → St → Option ((Y3 × (Bool × Unit)) × Unit)) (o1 : Y5) (table4 : Y3) (x5 : Int) (row6 : Y4) (t11 : Int) (t12 : Int) (t17 : Int) (t18 : Int) : Option ((Y3 × (Bool × Unit)) × Unit) := iter ((A_zz41).shape 14) (run (A_zz41) N (codeAt Try.f132 [1, 1, 0, 1, 0, 0, 1, 1, 0, 0, 1, 1, 0, 1, 0, 0])) n ([.u, .val (.ptr (.sl (.sl .bool))) .i o1, .u, .u, .val (.sl (.sl I)) (.o (.o .i)) table4, .val (.ptr I) .i x5, .val (.sl I) (.o .i) row6, .u, .u, .u, .u, .val I .i t11, .val I .i t12, .u, .u, .u, .u, .val I .i t17, .val I .i t18] ++ List.replicate 20 .u) K
noncomputable abbrev zz41_z : Ex → St → Option ((Y3 × (Bool × Unit)) × Unit) := finish (A_zz41) S_zz41 Try.f132.results.toList
noncomputable abbrev zz41_X3 (kX : St → Option ((Y3 × (Bool × Unit)) × Unit)) : Y3 → Option ((Y3 × (Bool × Unit)) × Unit) := fun (table4 : Y3) => kX ([.u, .u, .u, .u, .val (.sl (.sl I)) (.o (.o .i)) table4] ++ List.replicate 34 .u)
noncomputable abbrev zz41_E3 (kX : St → Option ((Y3 × (Bool × Unit)) × Unit)) (kO : Nat → St → Option ((Y3 × (Bool × Unit)) × Unit)) : Ex → St → Option ((Y3 × (Bool × Unit)) × Unit) := exK zz41_z 0 ((A_zz41).shape 33) kX kO
noncomputable abbrev zz41_X7 (kX : St → Option ((Y3 × (Bool × Unit)) × Unit)) : Y5 → Y3 → Y4 → Int → Int → Option ((Y3 × (Bool × Unit)) × Unit) := fun (o1 : Y5) (table4 : Y3) (row6 : Y4) (t11 : Int) (t12 : Int) => kX ([.u, .val (.ptr (.sl (.sl .bool))) .i o1, .u, .u, .val (.sl (.sl I)) (.o (.o .i)) table4, .u, .val (.sl I) (.o .i) row6, .u, .u, .u, .u, .val I .i t11, .val I .i t12] ++ List.replicate 26 .u)
noncomputable abbrev zz41_E7 (kX : St → Option ((Y3 × (Bool × Unit)) × Unit)) (kO : Nat → St → Option ((Y3 × (Bool × Unit)) × Unit)) : Ex → St → Option ((Y3 × (Bool × Unit)) × Unit) := exK zz41_z 2 ((A_zz41).shape 29) kX kO
theorem zz41_step7 (N : Nat) (m : Nat) (kX : St → Option ((Y3 × (Bool × Unit)) × Unit)) (kO : Nat → St → Option ((Y3 × (Bool × Unit)) × Unit)) (o1 : Y5) (table4 : Y3) (x5 : Int) (row6 : Y4) (t11 : Int) (t12 : Int) (t17 : Int) (t18 : Int) : zz41_R7 N (m + 1) (zz41_E7 kX kO) o1 table4 x5 row6 t11 t12 t17 t18 = zz41_b7 (zz41_R7 N m (zz41_E7 kX kO)) (zz41_X7 kX) o1 table4 x5 row6 t11 t12 t17 t18 := by kernel_rfl
theorem zz41_iter7 (N : Nat) (kX : St → Option ((Y3 × (Bool × Unit)) × Unit)) (kO : Nat → St → Option ((Y3 × (Bool × Unit)) × Unit)) : ∀ (n : Nat) (o1 : Y5) (table4 : Y3) (x5 : Int) (row6 : Y4) (t11 : Int) (t12 : Int) (t17 : Int) (t18 : Int), zz41_R7 N n (zz41_E7 kX kO) o1 table4 x5 row6 t11 t12 t17 t18 = zz41_l7 N (zz41_X7 kX) n o1 table4 x5 row6 t11 t12 t17 t18
  | 0, _, _, _, _, _, _, _, _ => rfl
  | m + 1, o1, table4, x5, row6, t11, t12, t17, t18 => by
    have hrec : zz41_R7 N m (zz41_E7 kX kO) = (zz41_l7 N (zz41_X7 kX) m) := (funext fun o1 => (funext fun table4 => (funext fun x5 => (funext fun row6 => (funext fun t11 => (funext fun t12 => (funext fun t17 => (funext fun t18 => zz41_iter7 N kX kO m o1 table4 x5 row6 t11 t12 t17 t18))))))))
    refine (zz41_step7 N m kX kO o1 table4 x5 row6 t11 t12 t17 t18).trans ?_
    rw [hrec]
    rfl
noncomputable abbrev zz41_K7 (N : Nat) (m : Nat) (kX : St → Option ((Y3 × (Bool × Unit)) × Unit)) (kO : Nat → St → Option ((Y3 × (Bool × Unit)) × Unit)) : Ex → St → Option ((Y3 × (Bool × Unit)) × Unit) := (blockK 2 (seqK ((A_zz41).shape 29) (run (A_zz41) N (codeAt Try.f132 [1, 1, 0, 1, 0, 0, 1, 1, 0, 0, 1, 1, 1])) (blockK 1 (seqK ((A_zz41).shape 31) (run (A_zz41) N (codeAt Try.f132 [1, 1, 0, 1, 0, 0, 1, 1, 1])) (iterK ((A_zz41).shape 6) (run (A_zz41) N (codeAt Try.f132 [1, 1, 0, 1, 0, 0])) m (zz41_E3 kX kO))))))
noncomputable abbrev zz41_k7 (N : Nat) (m : Nat) (kX : St → Option ((Y3 × (Bool × Unit)) × Unit)) (kO : Nat → St → Option ((Y3 × (Bool × Unit)) × Unit)) : St → Option ((Y3 × (Bool × Unit)) × Unit) := fun st' => run (A_zz41) N (codeAt Try.f132 [1, 1, 0, 1, 0, 0, 1, 1, 0, 0, 1, 1, 1]) st' (blockK 1 (seqK ((A_zz41).shape 31) (run (A_zz41) N (codeAt Try.f132 [1, 1, 0, 1, 0, 0, 1, 1, 1])) (iterK ((A_zz41).shape 6) (run (A_zz41) N (codeAt Try.f132 [1, 1, 0, 1, 0, 0])) m (zz41_E3 kX kO))))
theorem zz41_after7 (N : Nat) (m : Nat) (kX : St → Option ((Y3 × (Bool × Unit)) × Unit)) (kO : Nat → St → Option ((Y3 × (Bool × Unit)) × Unit)) (o1 : Y5) (table4 : Y3) (row6 : Y4) (t11 : Int) (t12 : Int) : zz41_X7 (zz41_k7 N m kX kO) o1 table4 row6 t11 t12 = zz41_a7 (zz41_R3 N m (zz41_E3 kX kO)) o1 table4 row6 t11 t12 := by kernel_rfl
theorem zz41_in7 (N : Nat) (m : Nat) (kX : St → Option ((Y3 × (Bool × Unit)) × Unit)) (kO : Nat → St → Option ((Y3 × (Bool × Unit)) × Unit)) (recF : Y5 → Y3 → Int → Int → Option ((Y3 × (Bool × Unit)) × Unit)) (hrec : zz41_R3 N m (zz41_E3 kX kO) = recF) (o1 : Y5) (table4 : Y3) (x5 : Int) (row6 : Y4) (t11 : Int) (t12 : Int) (t17 : Int) (t18 : Int) : zz41_R7 N N (zz41_K7 N m kX kO) o1 table4 x5 row6 t11 t12 t17 t18 = zz41_F7 N recF (zz41_X3 kX) o1 table4 x5 row6 t11 t12 t17 t18 :=
  have h : zz41_X7 (zz41_k7 N m kX kO) = (zz41_a7 recF) := (funext fun o1 => (funext fun table4 => (funext fun row6 => (funext fun t11 => (funext fun t12 => (zz41_after7 N m kX kO o1 table4 row6 t11 t12).trans (by rw [hrec]))))))
  ((iter_ex (fun st => by kernel_rfl) (fun st => by kernel_rfl)).trans (zz41_iter7 N (zz41_k7 N m kX kO) (fun j st => (zz41_K7 N m kX kO) (.exit j) st) N o1 table4 x5 row6 t11 t12 t17 t18)).trans (congrArg (fun k => zz41_l7 N k N o1 table4 x5 row6 t11 t12 t17 t18) h)
theorem zz41_step3 (N : Nat) (m : Nat) (kX : St → Option ((Y3 × (Bool × Unit)) × Unit)) (kO : Nat → St → Option ((Y3 × (Bool × Unit)) × Unit)) (o1 : Y5) (table4 : Y3) (t11 : Int) (t12 : Int) : zz41_R3 N (m + 1) (zz41_E3 kX kO) o1 table4 t11 t12 = zz41_b3 (zz41_R7 N N (zz41_K7 N m kX kO)) (zz41_X3 kX) o1 table4 t11 t12 := by kernel_rfl
theorem zz41_iter3 (N : Nat) (kX : St → Option ((Y3 × (Bool × Unit)) × Unit)) (kO : Nat → St → Option ((Y3 × (Bool × Unit)) × Unit)) : ∀ (n : Nat) (o1 : Y5) (table4 : Y3) (t11 : Int) (t12 : Int), zz41_R3 N n (zz41_E3 kX kO) o1 table4 t11 t12 = zz41_l3 N (zz41_X3 kX) n o1 table4 t11 t12
  | 0, _, _, _, _ => rfl
  | m + 1, o1, table4, t11, t12 => by
    have hrec : zz41_R3 N m (zz41_E3 kX kO) = (zz41_l3 N (zz41_X3 kX) m) := (funext fun o1 => (funext fun table4 => (funext fun t11 => (funext fun t12 => zz41_iter3 N kX kO m o1 table4 t11 t12))))
    refine (zz41_step3 N m kX kO o1 table4 t11 t12).trans ?_
    rw [(funext fun o1 => (funext fun table4 => (funext fun x5 => (funext fun row6 => (funext fun t11 => (funext fun t12 => (funext fun t17 => (funext fun t18 => zz41_in7 N m kX kO (zz41_l3 N (zz41_X3 kX) m) hrec o1 table4 x5 row6 t11 t12 t17 t18))))))))]
    rfl
noncomputable abbrev zz41_K3 (N : Nat) : Ex → St → Option ((Y3 × (Bool × Unit)) × Unit) := (blockK 0 (seqK ((A_zz41).shape 33) (run (A_zz41) N (codeAt Try.f132 [1, 1, 1])) zz41_z))
noncomputable abbrev zz41_k3 (N : Nat) : St → Option ((Y3 × (Bool × Unit)) × Unit) := fun st' => run (A_zz41) N (codeAt Try.f132 [1, 1, 1]) st' zz41_z
theorem zz41_after3 (N : Nat) (table4 : Y3) : zz41_X3 (zz41_k3 N) table4 = zz41_a3 table4 := by kernel_rfl
theorem zz41_in3 (N : Nat) (o1 : Y5) (table4 : Y3) (t11 : Int) (t12 : Int) : zz41_R3 N N (zz41_K3 N) o1 table4 t11 t12 = zz41_F3 N o1 table4 t11 t12 :=
  have h : zz41_X3 (zz41_k3 N) = (zz41_a3) := (funext fun table4 => zz41_after3 N table4)
  ((iter_ex (fun st => by kernel_rfl) (fun st => by kernel_rfl)).trans (zz41_iter3 N (zz41_k3 N) (fun j st => (zz41_K3 N) (.exit j) st) N o1 table4 t11 t12)).trans (congrArg (fun k => zz41_l3 N k N o1 table4 t11 t12) h)
theorem run0_zz41 (N : Nat) (x : (S_zz41).a.den) : runF (A_zz41) N Try.f132 S_zz41 x = (zz41_s (zz41_R3 N N (zz41_K3 N)) x.1) := by kernel_rfl
theorem run_zz41 (N : Nat) (x : (S_zz41).a.den) : runF (A_zz41) N Try.f132 S_zz41 x = zz41 N x.1 := by
  refine (run0_zz41 N x).trans ?_
  rw [(funext fun o1 => (funext fun table4 => (funext fun t11 => (funext fun t12 => zz41_in3 N o1 table4 t11 t12))))]
  rfl
theorem fn_zz41 : FnOk Try.prog 132 := ⟨_, Try.func132, by kernel_rfl, by kernel_rfl⟩
theorem good_zz41 : Gx.Good Try.prog 132 S_zz41 := good_of_run Try.func132 (of_decide_eq_true (by kernel_rfl)) fun x r h => ⟨A_zz41, big, mkCfg_ok tabOk, mkCfg_sigs (show SigsOk Try.prog [(104, S_zz40), (150, S_zz38)] from ⟨⟨fn_zz40, good_zz40⟩, ⟨fn_zz38, good_zz38⟩, trivial⟩), (run_zz41 big x).trans h⟩

/-! zz42 -/
def zz42_b6 (rec : Y5 → Y5 → Int → Int → Int → Int → Int → Option (Y5 × Unit)) (k : Y5 → Y5 → Int → Int → Option (Y5 × Unit)) (o0 : Y5) (d3 : Y5) (x4 : Int) (t10 : Int) (t11 : Int) (t15 : Int) (t16 : Int) : Option (Y5 × Unit) :=
  cond (decide (t16 < t15))
  ((atI d3 x4).bind fun _ =>
  (d3[x4.toNat]?).bind fun xq2 =>
  (atI o0 t16).bind fun xq3 =>
  (atI xq3 x4).bind fun xq4 =>
  (d3[x4.toNat]?).bind fun xq5 =>
  (atI xq5 t16).bind fun _ =>
  (d3[x4.toNat]?).bind fun xq6 =>
  (xq6[t16.toNat]?).bind fun xq7 =>
  rec o0 (d3.set x4.toNat (xq6.set t16.toNat xq4)) x4 t10 t11 t15 (IntKind.i64.wrap (t16 + (1 : Int))))
  (k o0 d3 t10 t11)
def zz42_a6 (rec : Y5 → Y5 → Int → Int → Option (Y5 × Unit)) (o0 : Y5) (d3 : Y5) (t10 : Int) (t11 : Int) : Option (Y5 × Unit) :=
  rec o0 d3 t10 (IntKind.i64.wrap (t11 + (1 : Int)))
def zz42_b3 (L6 : Y5 → Y5 → Int → Int → Int → Int → Int → Option (Y5 × Unit)) (k : Y5 → Option (Y5 × Unit)) (o0 : Y5) (d3 : Y5) (t10 : Int) (t11 : Int) : Option (Y5 × Unit) :=
  cond (decide (t11 < t10))
  (L6 o0 d3 t11 t10 t11 (o0.length : Int) (0 : Int))
  (k d3)
def zz42_a3 (d3 : Y5) : Option (Y5 × Unit) :=
  some (d3, (()))
def zz42_s (L3 : Y5 → Y5 → Int → Int → Option (Y5 × Unit)) (o_0 : Y5) : Option (Y5 × Unit) :=
  (zz33 big (o_0.length : Int)).bind fun rq1 =>
  L3 o_0 rq1.1 (o_0.length : Int) (0 : Int)
def zz42_l6 (N : Nat) (k : Y5 → Y5 → Int → Int → Option (Y5 × Unit)) : Nat → Y5 → Y5 → Int → Int → Int → Int → Int → Option (Y5 × Unit)
  | 0, _, _, _, _, _, _, _ => none
  | m + 1, o0, d3, x4, t10, t11, t15, t16 => zz42_b6 (zz42_l6 N k m) k o0 d3 x4 t10 t11 t15 t16
def zz42_F6 (N : Nat) (rec : Y5 → Y5 → Int → Int → Option (Y5 × Unit)) (k : Y5 → Option (Y5 × Unit)) (o0 : Y5) (d3 : Y5) (x4 : Int) (t10 : Int) (t11 : Int) (t15 : Int) (t16 : Int) : Option (Y5 × Unit) := zz42_l6 N (zz42_a6 rec) N o0 d3 x4 t10 t11 t15 t16
def zz42_l3 (N : Nat) (k : Y5 → Option (Y5 × Unit)) : Nat → Y5 → Y5 → Int → Int → Option (Y5 × Unit)
  | 0, _, _, _, _ => none
  | m + 1, o0, d3, t10, t11 => zz42_b3 (zz42_F6 N (zz42_l3 N k m) k) k o0 d3 t10 t11
def zz42_F3 (N : Nat) (o0 : Y5) (d3 : Y5) (t10 : Int) (t11 : Int) : Option (Y5 × Unit) := zz42_l3 N (zz42_a3) N o0 d3 t10 t11
def zz42 (N : Nat) (o_0 : Y5) : Option (Y5 × Unit) := zz42_s (zz42_F3 N) o_0
def S_zz42 : Sig := { a := (.pair (.sl (.sl .bool)) .unit), md := [0], mf := [], m := .unit, r := (.sl (.sl .bool)), rf := (.o (.o .i)), f := fun x => zz42 big x.1 }
def A_zz42 : Cfg := mkCfg tab [(67, S_zz33)] [(6, [.as (.sl (.sl .bool)) .i, .drop, .drop, .as (.sl (.sl .bool)) (.o (.o .i)), .drop, .drop, .drop, .drop, .drop, .drop, .as I .i, .as I .i]), (12, [.as (.sl (.sl .bool)) .i, .drop, .drop, .as (.sl (.sl .bool)) (.o (.o .i)), .as I .i, .drop, .drop, .drop, .drop, .drop, .as I .i, .as I .i, .drop, .drop, .drop, .as I .i, .as I .i]), (23, [.drop, .drop, .drop, .as (.sl (.sl .bool)) (.o (.o .i))]), (21, [.as (.sl (.sl .bool)) .i, .drop, .drop, .as (.sl (.sl .bool)) (.o (.o .i)), .drop, .drop, .drop, .drop, .drop, .drop, .as I .i, .as I .i])]
noncomputable def zz42_R3 (N n : Nat) (K : Ex → St → Option (Y5 × Unit)) (o0 : Y5) (d3 : Y5) (t10 : Int) (t11 : Int) : Option (Y5 × Unit) := iter ((A_zz42).shape 6) (run (A_zz42) N (codeAt Try.f133 [1, 1, 0, 1, 0, 0])) n ([.val (.sl (.sl .bool)) .i o0, .u, .u, .val (.sl (.sl .bool)) (.o (.o .i)) d3, .u, .u, .u, .u, .u, .u, .val I .i t10, .val I .i t11] ++ List.replicate 23 .u) K
noncomputable def zz42_R6 (N n : Nat) (K : Ex → St → Option (Y5 × Unit)) (o0 : Y5) (d3 : Y5) (x4 : Int) (t10 : Int) (t11 : Int) (t15 : Int) (t16 : Int) : Option (Y5 × Unit) := iter ((A_zz42).shape 12) (run (A_zz42) N (codeAt Try.f133 [1, 1, 0, 1, 0, 0, 1, 1, 0, 0, 1, 1, 0, 0])) n ([.val (.sl (.sl .bool)) .i o0, .u, .u, .val (.sl (.sl .bool)) (.o (.o .i)) d3, .val I .i x4, .u, .u, .u, .u, .u, .val I .i t10, .val I .i t11, .u, .u, .u, .val I .i t15, .val I .i t16] ++ List.replicate 18 .u) K
noncomputable abbrev zz42_z : Ex → St → Option (Y5 × Unit) := finish (A_zz42) S_zz42 Try.f133.results.toList
noncomputable abbrev zz42_X3 (kX : St → Option (Y5 × Unit)) : Y5 → Option (Y5 × Unit) := fun (d3 : Y5) => kX ([.u, .u, .u, .val (.sl (.sl .bool)) (.o (.o .i)) d3] ++ List.replicate 31 .u)
noncomputable abbrev zz42_E3 (kX : St → Option (Y5 × Unit)) (kO : Nat → St → Option (Y5 × Unit)) : Ex → St → Option (Y5 × Unit) := exK zz42_z 0 ((A_zz42).shape 23) kX kO
noncomputable abbrev zz42_X6 (kX : St → Option (Y5 × Unit)) : Y5 → Y5 → Int → Int → Option (Y5 × Unit) := fun (o0 : Y5) (d3 : Y5) (t10 : Int) (t11 : Int) => kX ([.val (.sl (.sl .bool)) .i o0, .u, .u, .val (.sl (.sl .bool)) (.o (.o .i)) d3, .u, .u, .u, .u, .u, .u, .val I .i t10, .val I .i t11] ++ List.replicate 23 .u)
noncomputable abbrev zz42_E6 (kX : St → Option (Y5 × Unit)) (kO : Nat → St → Option (Y5 × Unit)) : Ex → St → Option (Y5 × Unit) := exK zz42_z 2 ((A_zz42).shape 21) kX kO
theorem zz42_step6 (N : Nat) (m : Nat) (kX : St → Option (Y5 × Unit)) (kO : Nat → St → Option (Y5 × Unit)) (o0 : Y5) (d3 : Y5) (x4 : Int) (t10 : Int) (t11 : Int) (t15 : Int) (t16 : Int) : zz42_R6 N (m + 1) (zz42_E6 kX kO) o0 d3 x4 t10 t11 t15 t16 = zz42_b6 (zz42_R6 N m (zz42_E6 kX kO)) (zz42_X6 kX) o0 d3 x4 t10 t11 t15 t16 := by kernel_rfl
theorem zz42_iter6 (N : Nat) (kX : St → Option (Y5 × Unit)) (kO : Nat → St → Option (Y5 × Unit)) : ∀ (n : Nat) (o0 : Y5) (d3 : Y5) (x4 : Int) (t10 : Int) (t11 : Int) (t15 : Int) (t16 : Int), zz42_R6 N n (zz42_E6 kX kO) o0 d3 x4 t10 t11 t15 t16 = zz42_l6 N (zz42_X6 kX) n o0 d3 x4 t10 t11 t15 t16
  | 0, _, _, _, _, _, _, _ => rfl
  | m + 1, o0, d3, x4, t10, t11, t15, t16 => by
    have hrec : zz42_R6 N m (zz42_E6 kX kO) = (zz42_l6 N (zz42_X6 kX) m) := (funext fun o0 => (funext fun d3 => (funext fun x4 => (funext fun t10 => (funext fun t11 => (funext fun t15 => (funext fun t16 => zz42_iter6 N kX kO m o0 d3 x4 t10 t11 t15 t16)))))))
    refine (zz42_step6 N m kX kO o0 d3 x4 t10 t11 t15 t16).trans ?_
    rw [hrec]
    rfl
noncomputable abbrev zz42_K6 (N : Nat) (m : Nat) (kX : St → Option (Y5 × Unit)) (kO : Nat → St → Option (Y5 × Unit)) : Ex → St → Option (Y5 × Unit) := (blockK 2 (blockK 1 (seqK ((A_zz42).shape 21) (run (A_zz42) N (codeAt Try.f133 [1, 1, 0, 1, 0, 0, 1, 1, 1])) (iterK ((A_zz42).shape 6) (run (A_zz42) N (codeAt Try.f133 [1, 1, 0, 1, 0, 0])) m (zz42_E3 kX kO)))))
noncomputable abbrev zz42_k6 (N : Nat) (m : Nat) (kX : St → Option (Y5 × Unit)) (kO : Nat → St → Option (Y5 × Unit)) : St → Option (Y5 × Unit) := fun st' => run (A_zz42) N (codeAt Try.f133 [1, 1, 0, 1, 0, 0, 1, 1, 1]) st' (iterK ((A_zz42).shape 6) (run (A_zz42) N (codeAt Try.f133 [1, 1, 0, 1, 0, 0])) m (zz42_E3 kX kO))
theorem zz42_after6 (N : Nat) (m : Nat) (kX : St → Option (Y5 × Unit)) (kO : Nat → St → Option (Y5 × Unit)) (o0 : Y5) (d3 : Y5) (t10 : Int) (t11 : Int) : zz42_X6 (zz42_k6 N m kX kO) o0 d3 t10 t11 = zz42_a6 (zz42_R3 N m (zz42_E3 kX kO)) o0 d3 t10 t11 := by kernel_rfl
theorem zz42_in6 (N : Nat) (m : Nat) (kX : St → Option (Y5 × Unit)) (kO : Nat → St → Option (Y5 × Unit)) (recF : Y5 → Y5 → Int → Int → Option (Y5 × Unit)) (hrec : zz42_R3 N m (zz42_E3 kX kO) = recF) (o0 : Y5) (d3 : Y5) (x4 : Int) (t10 : Int) (t11 : Int) (t15 : Int) (t16 : Int) : zz42_R6 N N (zz42_K6 N m kX kO) o0 d3 x4 t10 t11 t15 t16 = zz42_F6 N recF (zz42_X3 kX) o0 d3 x4 t10 t11 t15 t16 :=
  have h : zz42_X6 (zz42_k6 N m kX kO) = (zz42_a6 recF) := (funext fun o0 => (funext fun d3 => (funext fun t10 => (funext fun t11 => (zz42_after6 N m kX kO o0 d3 t10 t11).trans (by rw [hrec])))))
  ((iter_ex (fun st => by kernel_rfl) (fun st => by kernel_rfl)).trans (zz42_iter6 N (zz42_k6 N m kX kO) (fun j st => (zz42_K6 N m kX kO) (.exit j) st) N o0 d3 x4 t10 t11 t15 t16)).trans (congrArg (fun k => zz42_l6 N k N o0 d3 x4 t10 t11 t15 t16) h)
theorem zz42_step3 (N : Nat) (m : Nat) (kX : St → Option (Y5 × Unit)) (kO : Nat → St → Option (Y5 × Unit)) (o0 : Y5) (d3 : Y5) (t10 : Int) (t11 : Int) : zz42_R3 N (m + 1) (zz42_E3 kX kO) o0 d3 t10 t11 = zz42_b3 (zz42_R6 N N (zz42_K6 N m kX kO)) (zz42_X3 kX) o0 d3 t10 t11 := by kernel_rfl
theorem zz42_iter3 (N : Nat) (kX : St → Option (Y5 × Unit)) (kO : Nat → St → Option (Y5 × Unit)) : ∀ (n : Nat) (o0 : Y5) (d3 : Y5) (t10 : Int) (t11 : Int), zz42_R3 N n (zz42_E3 kX kO) o0 d3 t10 t11 = zz42_l3 N (zz42_X3 kX) n o0 d3 t10 t11
  | 0, _, _, _, _ => rfl
  | m + 1, o0, d3, t10, t11 => by
    have hrec : zz42_R3 N m (zz42_E3 kX kO) = (zz42_l3 N (zz42_X3 kX) m) := (funext fun o0 => (funext fun d3 => (funext fun t10 => (funext fun t11 => zz42_iter3 N kX kO m o0 d3 t10 t11))))
    refine (zz42_step3 N m kX kO o0 d3 t10 t11).trans ?_
    rw [(funext fun o0 => (funext fun d3 => (funext fun x4 => (funext fun t10 => (funext fun t11 => (funext fun t15 => (funext fun t16 => zz42_in6 N m kX kO (zz42_l3 N (zz42_X3 kX) m) hrec o0 d3 x4 t10 t11 t15 t16)))))))]
    rfl
noncomputable abbrev zz42_K3 (N : Nat) : Ex → St → Option (Y5 × Unit) := (blockK 0 (seqK ((A_zz42).shape 23) (run (A_zz42) N (codeAt Try.f133 [1, 1, 1])) zz42_z))
noncomputable abbrev zz42_k3 (N : Nat) : St → Option (Y5 × Unit) := fun st' => run (A_zz42) N (codeAt Try.f133 [1, 1, 1]) st' zz42_z
theorem zz42_after3 (N : Nat) (d3 : Y5) : zz42_X3 (zz42_k3 N) d3 = zz42_a3 d3 := by kernel_rfl
theorem zz42_in3 (N : Nat) (o0 : Y5) (d3 : Y5) (t10 : Int) (t11 : Int) : zz42_R3 N N (zz42_K3 N) o0 d3 t10 t11 = zz42_F3 N o0 d3 t10 t11 :=
  have h : zz42_X3 (zz42_k3 N) = (zz42_a3) := (funext fun d3 => zz42_after3 N d3)
  ((iter_ex (fun st => by kernel_rfl) (fun st => by kernel_rfl)).trans (zz42_iter3 N (zz42_k3 N) (fun j st => (zz42_K3 N) (.exit j) st) N o0 d3 t10 t11)).trans (congrArg (fun k => zz42_l3 N k N o0 d3 t10 t11) h)
theorem run0_zz42 (N : Nat) (x : (S_zz42).a.den) : runF (A_zz42) N Try.f133 S_zz42 x = (zz42_s (zz42_R3 N N (zz42_K3 N)) x.1) := by kernel_rfl
theorem run_zz42 (N : Nat) (x : (S_zz42).a.den) : runF (A_zz42) N Try.f133 S_zz42 x = zz42 N x.1 := by
  refine (run0_zz42 N x).trans ?_
  rw [(funext fun o0 => (funext fun d3 => (funext fun t10 => (funext fun t11 => zz42_in3 N o0 d3 t10 t11))))]
  rfl
theorem fn_zz42 : FnOk Try.prog 133 := ⟨_, Try.func133, by kernel_rfl, by kernel_rfl⟩
theorem good_zz42 : Gx.Good Try.prog 133 S_zz42 := good_of_run Try.func133 (of_decide_eq_true (by kernel_rfl)) fun x r h => ⟨A_zz42, big, mkCfg_ok tabOk, mkCfg_sigs (show SigsOk Try.prog [(67, S_zz33)] from ⟨⟨fn_zz33, good_zz33⟩, trivial⟩), (run_zz42 big x).trans h⟩

/-! zz43 -/
def zz43_s (p_0 : Y2) : Option ((Y1 × (Bool × Unit)) × Unit) :=
  (zz37 big p_0).bind fun rq1 =>
  cond (!((((), rq1.1.2).2).1))
  (some ((none, false, ()), (())))
  (cond (decide ((rq1.1.1.length : Int) = (0 : Int)))
  (some ((none, false, ()), (())))
  ((zz41 big rq1.1.1).bind fun rq2 =>
  (zz42 big rq1.1.1).bind fun rq3 =>
  (zz41 big rq3.1).bind fun rq4 =>
  cond ((((), rq2.1.2).2).1)
  (some ((some (rq1.1.1, (rq2.1.1, (rq4.1.1, ()))), (((), rq4.1.2).2).1, ()), (())))
  (some ((some (rq1.1.1, (rq2.1.1, (rq4.1.1, ()))), false, ()), (())))))
def zz43 (p_0 : Y2) : Option ((Y1 × (Bool × Unit)) × Unit) := zz43_s p_0
def S_zz43 : Sig := { a := (.pair (.pair (.sl (.sl I)) .unit) .unit), md := [0], mf := [], m := .unit, r := (.tup (.pair (.opt (.pair (.sl (.sl .bool)) (.pair (.sl (.sl I)) (.pair (.sl (.sl I)) .unit)))) (.pair .bool .unit))), rf := .i, f := fun x => zz43 x.1 }
def A_zz43 : Cfg := mkCfg tab [(131, S_zz37), (132, S_zz41), (133, S_zz42)] []
theorem run_zz43 (N : Nat) (x : (S_zz43).a.den) : runF (A_zz43) N Try.f91 S_zz43 x = zz43 x.1 := by kernel_rfl
theorem fn_zz43 : FnOk Try.prog 91 := ⟨_, Try.func91, by kernel_rfl, by kernel_rfl⟩
theorem good_zz43 : Gx.Good Try.prog 91 S_zz43 := good_of_run Try.func91 (of_decide_eq_true (by kernel_rfl)) fun x r h => ⟨A_zz43, big, mkCfg_ok tabOk, mkCfg_sigs (show SigsOk Try.prog [(131, S_zz37), (132, S_zz41), (133, S_zz42)] from ⟨⟨fn_zz37, good_zz37⟩, ⟨fn_zz41, good_zz41⟩, ⟨fn_zz42, good_zz42⟩, trivial⟩), (run_zz43 big x).trans h⟩

/-! zz44 -/
def zz44_s (p_0 : Y2) : Option ((Y1 × (Bool × Unit)) × Unit) :=
  (zz43 p_0).bind fun rq1 =>
  cond rq1.1.2.1
  ((rq1.1.1).bind fun xq2 =>
  some ((rq1.1.1, decide ((xq2.1.length : Int) ≤ (8 : Int)), ()), (())))
  (some ((rq1.1.1, false, ()), (())))
def zz44 (p_0 : Y2) : Option ((Y1 × (Bool × Unit)) × Unit) := zz44_s p_0
def S_zz44 : Sig := { a := (.pair (.pair (.sl (.sl I)) .unit) .unit), md := [0], mf := [], m := .unit, r := (.tup (.pair (.opt (.pair (.sl (.sl .bool)) (.pair (.sl (.sl I)) (.pair (.sl (.sl I)) .unit)))) (.pair .bool .unit))), rf := .i, f := fun x => zz44 x.1 }
def A_zz44 : Cfg := mkCfg tab [(91, S_zz43)] []
theorem run_zz44 (N : Nat) (x : (S_zz44).a.den) : runF (A_zz44) N Try.f51 S_zz44 x = zz44 x.1 := by kernel_rfl
theorem fn_zz44 : FnOk Try.prog 51 := ⟨_, Try.func51, by kernel_rfl, by kernel_rfl⟩
theorem good_zz44 : Gx.Good Try.prog 51 S_zz44 := good_of_run Try.func51 (of_decide_eq_true (by kernel_rfl)) fun x r h => ⟨A_zz44, big, mkCfg_ok tabOk, mkCfg_sigs (show SigsOk Try.prog [(91, S_zz43)] from ⟨⟨fn_zz43, good_zz43⟩, trivial⟩), (run_zz44 big x).trans h⟩

/-! zz45 -/
def zz45_b3 (rec : Y6 → Y6 → Y3 → Int → Int → Option (Y6 × Unit)) (k : Y6 → Y6 → Option (Y6 × Unit)) (t2 : Y6) (f3 : Y6) (t7 : Y3) (t8 : Int) (t9 : Int) : Option (Y6 × Unit) :=
  cond (decide (t9 < t8))
  ((atI t7 t9).bind fun xq1 =>
  (appI f3.2.1 xq1).bind fun xq2 =>
  rec t2 ((f3.1, ((), f3.2.2)).1, (xq2, ((f3.1, ((), f3.2.2)).2).2)) t7 t8 (IntKind.i64.wrap (t9 + (1 : Int))))
  (k t2 f3)
def zz45_a3 (t2 : Y6) (f3 : Y6) : Option (Y6 × Unit) :=
  some (f3, (()))
def zz45_s (L3 : Y6 → Y6 → Y3 → Int → Int → Option (Y6 × Unit)) (table_0 : Y3) : Option (Y6 × Unit) :=
  L3 ((0 : Int), (([] : Y4), ())) ((2 : Int), (([] : Y4), ())) table_0 (table_0.length : Int) (0 : Int)
def zz45_l3 (N : Nat) (k : Y6 → Y6 → Option (Y6 × Unit)) : Nat → Y6 → Y6 → Y3 → Int → Int → Option (Y6 × Unit)
  | 0, _, _, _, _, _ => none
  | m + 1, t2, f3, t7, t8, t9 => zz45_b3 (zz45_l3 N k m) k t2 f3 t7 t8 t9
def zz45_F3 (N : Nat) (t2 : Y6) (f3 : Y6) (t7 : Y3) (t8 : Int) (t9 : Int) : Option (Y6 × Unit) := zz45_l3 N (zz45_a3) N t2 f3 t7 t8 t9
def zz45 (N : Nat) (table_0 : Y3) : Option (Y6 × Unit) := zz45_s (zz45_F3 N) table_0
def S_zz45 : Sig := { a := (.pair (.sl (.sl I)) .unit), md := [0], mf := [], m := .unit, r := (.pair I (.pair (.sl I) .unit)), rf := (.p .i (.p (.o .i) .i)), f := fun x => zz45 big x.1 }
def A_zz45 : Cfg := mkCfg tab [] [(6, [.drop, .drop, .as (.ptr (.pair I (.pair (.sl I) .unit))) (.o (.p .i (.p (.o .i) .i))), .as (.ptr (.pair I (.pair (.sl I) .unit))) (.o (.p .i (.p (.o .i) .i))), .drop, .drop, .drop, .as (.sl (.sl I)) .i, .as I .i, .as I .i]), (15, [.drop, .drop, .as (.ptr (.pair I (.pair (.sl I) .unit))) (.o (.p .i (.p (.o .i) .i))), .as (.ptr (.pair I (.pair (.sl I) .unit))) (.o (.p .i (.p (.o .i) .i)))])]
noncomputable def zz45_R3 (N n : Nat) (K : Ex → St → Option (Y6 × Unit)) (t2 : Y6) (f3 : Y6) (t7 : Y3) (t8 : Int) (t9 : Int) : Option (Y6 × Unit) := iter ((A_zz45).shape 6) (run (A_zz45) N (codeAt Try.f86 [1, 1, 0, 1, 0, 0])) n ([.u, .u, .val (.ptr (.pair I (.pair (.sl I) .unit))) (.o (.p .i (.p (.o .i) .i))) t2, .val (.ptr (.pair I (.pair (.sl I) .unit))) (.o (.p .i (.p (.o .i) .i))) f3, .u, .u, .u, .val (.sl (.sl I)) .i t7, .val I .i t8, .val I .i t9] ++ List.replicate 10 .u) K
noncomputable abbrev zz45_z : Ex → St → Option (Y6 × Unit) := finish (A_zz45) S_zz45 Try.f86.results.toList
noncomputable abbrev zz45_X3 (kX : St → Option (Y6 × Unit)) : Y6 → Y6 → Option (Y6 × Unit) := fun (t2 : Y6) (f3 : Y6) => kX ([.u, .u, .val (.ptr (.pair I (.pair (.sl I) .unit))) (.o (.p .i (.p (.o .i) .i))) t2, .val (.ptr (.pair I (.pair (.sl I) .unit))) (.o (.p .i (.p (.o .i) .i))) f3] ++ List.replicate 16 .u)
noncomputable abbrev zz45_E3 (kX : St → Option (Y6 × Unit)) (kO : Nat → St → Option (Y6 × Unit)) : Ex → St → Option (Y6 × Unit) := exK zz45_z 0 ((A_zz45).shape 15) kX kO
theorem zz45_step3 (N : Nat) (m : Nat) (kX : St → Option (Y6 × Unit)) (kO : Nat → St → Option (Y6 × Unit)) (t2 : Y6) (f3 : Y6) (t7 : Y3) (t8 : Int) (t9 : Int) : zz45_R3 N (m + 1) (zz45_E3 kX kO) t2 f3 t7 t8 t9 = zz45_b3 (zz45_R3 N m (zz45_E3 kX kO)) (zz45_X3 kX) t2 f3 t7 t8 t9 := by kernel_rfl
theorem zz45_iter3 (N : Nat) (kX : St → Option (Y6 × Unit)) (kO : Nat → St → Option (Y6 × Unit)) : ∀ (n : Nat) (t2 : Y6) (f3 : Y6) (t7 : Y3) (t8 : Int) (t9 : Int), zz45_R3 N n (zz45_E3 kX kO) t2 f3 t7 t8 t9 = zz45_l3 N (zz45_X3 kX) n t2 f3 t7 t8 t9
  | 0, _, _, _, _, _ => rfl
  | m + 1, t2, f3, t7, t8, t9 => by
    have hrec : zz45_R3 N m (zz45_E3 kX kO) = (zz45_l3 N (zz45_X3 kX) m) := (funext fun t2 => (funext fun f3 => (funext fun t7 => (funext fun t8 => (funext fun t9 => zz45_iter3 N kX kO m t2 f3 t7 t8 t9)))))
    refine (zz45_step3 N m kX kO t2 f3 t7 t8 t9).trans ?_
    rw [hrec]
    rfl
noncomputable abbrev zz45_K3 (N : Nat) : Ex → St → Option (Y6 × Unit) := (blockK 0 (seqK ((A_zz45).shape 15) (run (A_zz45) N (codeAt Try.f86 [1, 1, 1])) zz45_z))
noncomputable abbrev zz45_k3 (N : Nat) : St → Option (Y6 × Unit) := fun st' => run (A_zz45) N (codeAt Try.f86 [1, 1, 1]) st' zz45_z
theorem zz45_after3 (N : Nat) (t2 : Y6) (f3 : Y6) : zz45_X3 (zz45_k3 N) t2 f3 = zz45_a3 t2 f3 := by kernel_rfl
theorem zz45_in3 (N : Nat) (t2 : Y6) (f3 : Y6) (t7 : Y3) (t8 : Int) (t9 : Int) : zz45_R3 N N (zz45_K3 N) t2 f3 t7 t8 t9 = zz45_F3 N t2 f3 t7 t8 t9 :=
  have h : zz45_X3 (zz45_k3 N) = (zz45_a3) := (funext fun t2 => (funext fun f3 => zz45_after3 N t2 f3))
  ((iter_ex (fun st => by kernel_rfl) (fun st => by kernel_rfl)).trans (zz45_iter3 N (zz45_k3 N) (fun j st => (zz45_K3 N) (.exit j) st) N t2 f3 t7 t8 t9)).trans (congrArg (fun k => zz45_l3 N k N t2 f3 t7 t8 t9) h)
theorem run0_zz45 (N : Nat) (x : (S_zz45).a.den) : runF (A_zz45) N Try.f86 S_zz45 x = (zz45_s (zz45_R3 N N (zz45_K3 N)) x.1) := by kernel_rfl
theorem run_zz45 (N : Nat) (x : (S_zz45).a.den) : runF (A_zz45) N Try.f86 S_zz45 x = zz45 N x.1 := by
  refine (run0_zz45 N x).trans ?_
  rw [(funext fun t2 => (funext fun f3 => (funext fun t7 => (funext fun t8 => (funext fun t9 => zz45_in3 N t2 f3 t7 t8 t9)))))]
  rfl
theorem fn_zz45 : FnOk Try.prog 86 := ⟨_, Try.func86, by kernel_rfl, by kernel_rfl⟩
theorem good_zz45 : Gx.Good Try.prog 86 S_zz45 := good_of_run Try.func86 (of_decide_eq_true (by kernel_rfl)) fun x r h => ⟨A_zz45, big, mkCfg_ok tabOk, mkCfg_sigs (show SigsOk Try.prog [] from trivial), (run_zz45 big x).trans h⟩

/-! zz46 -/
def zz46_s (l_0 : Y1) : Option (Y7 × Unit) :=
  (l_0).bind fun xq1 =>
  (l_0).bind fun xq2 =>
  (zz45 big xq2.2.1).bind fun rq3 =>
  (l_0).bind fun xq4 =>
  (zz45 big xq4.2.2.1).bind fun rq5 =>
  some (((xq1.1.length : Int), ([rq3.1, rq5.1], ())), (()))
def zz46 (l_0 : Y1) : Option (Y7 × Unit) := zz46_s l_0
def S_zz46 : Sig := { a := (.pair (.opt (.pair (.sl (.sl .bool)) (.pair (.sl (.sl I)) (.pair (.sl (.sl I)) .unit)))) .unit), md := [0], mf := [], m := .unit, r := (.pair I (.pair (.sl (.pair I (.pair (.sl I) .unit))) .unit)), rf := (.p .i (.p (.o (.p .i (.p (.o .i) .i))) .i)), f := fun x => zz46 x.1 }
def A_zz46 : Cfg := mkCfg tab [(86, S_zz45)] []
theorem run_zz46 (N : Nat) (x : (S_zz46).a.den) : runF (A_zz46) N Try.f59 S_zz46 x = zz46 x.1 := by kernel_rfl
theorem fn_zz46 : FnOk Try.prog 59 := ⟨_, Try.func59, by kernel_rfl, by kernel_rfl⟩
theorem good_zz46 : Gx.Good Try.prog 59 S_zz46 := good_of_run Try.func59 (of_decide_eq_true (by kernel_rfl)) fun x r h => ⟨A_zz46, big, mkCfg_ok tabOk, mkCfg_sigs (show SigsOk Try.prog [(86, S_zz45)] from ⟨⟨fn_zz45, good_zz45⟩, trivial⟩), (run_zz46 big x).trans h⟩

/-! zz47 -/
def zz47_b4 (rec : Y4 → Y4 → Int → Int → Option (Bool × Unit)) (k : Option (Bool × Unit)) (p1 : Y4) (t11 : Y4) (t12 : Int) (t13 : Int) : Option (Bool × Unit) :=
  cond (decide (t13 < t12))
  ((atI t11 t13).bind fun xq1 =>
  cond (decide (xq1 < (0 : Int)))
  (some (false, (())))
  (cond (decide (t13 < xq1))
  (some (false, (())))
  ((atI p1 xq1).bind fun xq2 =>
  cond (decide (xq2 ≠ xq1))
  (some (false, (())))
  (rec p1 t11 t12 (IntKind.i64.wrap (t13 + (1 : Int)))))))
  (k)
def zz47_a4 : Option (Bool × Unit) :=
  some (true, (()))
def zz47_s (L4 : Y4 → Y4 → Int → Int → Option (Bool × Unit)) (n_0 : Int) (p_1 : Y4) : Option (Bool × Unit) :=
  cond (decide ((p_1.length : Int) ≠ n_0))
  (some (false, (())))
  (L4 p_1 p_1 (p_1.length : Int) (0 : Int))
def zz47_l4 (N : Nat) (k : Option (Bool × Unit)) : Nat → Y4 → Y4 → Int → Int → Option (Bool × Unit)
  | 0, _, _, _, _ => none
  | m + 1, p1, t11, t12, t13 => zz47_b4 (zz47_l4 N k m) k p1 t11 t12 t13
def zz47_F4 (N : Nat) (p1 : Y4) (t11 : Y4) (t12 : Int) (t13 : Int) : Option (Bool × Unit) := zz47_l4 N (zz47_a4) N p1 t11 t12 t13
def zz47 (N : Nat) (n_0 : Int) (p_1 : Y4) : Option (Bool × Unit) := zz47_s (zz47_F4 N) n_0 p_1
def S_zz47 : Sig := { a := (.pair I (.pair (.sl I) .unit)), md := [0, 0], mf := [], m := .unit, r := .bool, rf := .i, f := fun x => zz47 big x.1 x.2.1 }
def A_zz47 : Cfg := mkCfg tab [] [(8, [.drop, .as (.sl I) .i, .drop, .drop, .drop, .drop, .drop, .drop, .drop, .drop, .drop, .as (.sl I) .i, .as I .i, .as I .i]), (19, [])]
noncomputable def zz47_R4 (N n : Nat) (K : Ex → St → Option (Bool × Unit)) (p1 : Y4) (t11 : Y4) (t12 : Int) (t13 : Int) : Option (Bool × Unit) := iter ((A_zz47).shape 8) (run (A_zz47) N (codeAt Try.f99 [1, 1, 0, 1, 0, 0])) n ([.u, .val (.sl I) .i p1, .u, .u, .u, .u, .u, .u, .u, .u, .u, .val (.sl I) .i t11, .val I .i t12, .val I .i t13] ++ List.replicate 20 .u) K
noncomputable abbrev zz47_z : Ex → St → Option (Bool × Unit) := finish (A_zz47) S_zz47 Try.f99.results.toList
noncomputable abbrev zz47_X4 (kX : St → Option (Bool × Unit)) : Option (Bool × Unit) := kX ([] ++ List.replicate 34 .u)
noncomputable abbrev zz47_E4 (kX : St → Option (Bool × Unit)) (kO : Nat → St → Option (Bool × Unit)) : Ex → St → Option (Bool × Unit) := exK zz47_z 0 ((A_zz47).shape 19) kX kO
theorem zz47_step4 (N : Nat) (m : Nat) (kX : St → Option (Bool × Unit)) (kO : Nat → St → Option (Bool × Unit)) (p1 : Y4) (t11 : Y4) (t12 : Int) (t13 : Int) : zz47_R4 N (m + 1) (zz47_E4 kX kO) p1 t11 t12 t13 = zz47_b4 (zz47_R4 N m (zz47_E4 kX kO)) (zz47_X4 kX) p1 t11 t12 t13 := by kernel_rfl
theorem zz47_iter4 (N : Nat) (kX : St → Option (Bool × Unit)) (kO : Nat → St → Option (Bool × Unit)) : ∀ (n : Nat) (p1 : Y4) (t11 : Y4) (t12 : Int) (t13 : Int), zz47_R4 N n (zz47_E4 kX kO) p1 t11 t12 t13 = zz47_l4 N (zz47_X4 kX) n p1 t11 t12 t13
  | 0, _, _, _, _ => rfl
  | m + 1, p1, t11, t12, t13 => by
    have hrec : zz47_R4 N m (zz47_E4 kX kO) = (zz47_l4 N (zz47_X4 kX) m) := (funext fun p1 => (funext fun t11 => (funext fun t12 => (funext fun t13 => zz47_iter4 N kX kO m p1 t11 t12 t13))))
    refine (zz47_step4 N m kX kO p1 t11 t12 t13).trans ?_
    rw [hrec]
    rfl
noncomputable abbrev zz47_K4 (N : Nat) : Ex → St → Option (Bool × Unit) := (blockK 0 (seqK ((A_zz47).shape 19) (run (A_zz47) N (codeAt Try.f99 [1, 1, 1])) zz47_z))
noncomputable abbrev zz47_k4 (N : Nat) : St → Option (Bool × Unit) := fun st' => run (A_zz47) N (codeAt Try.f99 [1, 1, 1]) st' zz47_z
theorem zz47_after4 (N : Nat) : zz47_X4 (zz47_k4 N) = zz47_a4 := by kernel_rfl
theorem zz47_in4 (N : Nat) (p1 : Y4) (t11 : Y4) (t12 : Int) (t13 : Int) : zz47_R4 N N (zz47_K4 N) p1 t11 t12 t13 = zz47_F4 N p1 t11 t12 t13 :=
  have h : zz47_X4 (zz47_k4 N) = (zz47_a4) := zz47_after4 N
  ((iter_ex (fun st => by kernel_rfl) (fun st => by kernel_rfl)).trans (zz47_iter4 N (zz47_k4 N) (fun j st => (zz47_K4 N) (.exit j) st) N p1 t11 t12 t13)).trans (congrArg (fun k => zz47_l4 N k N p1 t11 t12 t13) h)
theorem run0_zz47 (N : Nat) (x : (S_zz47).a.den) : runF (A_zz47) N Try.f99 S_zz47 x = (zz47_s (zz47_R4 N N (zz47_K4 N)) x.1 x.2.1) := by kernel_rfl
theorem run_zz47 (N : Nat) (x : (S_zz47).a.den) : runF (A_zz47) N Try.f99 S_zz47 x = zz47 N x.1 x.2.1 := by
  refine (run0_zz47 N x).trans ?_
  rw [(funext fun p1 => (funext fun t11 => (funext fun t12 => (funext fun t13 => zz47_in4 N p1 t11 t12 t13))))]
  rfl
theorem fn_zz47 : FnOk Try.prog 99 := ⟨_, Try.func99, by kernel_rfl, by kernel_rfl⟩
theorem good_zz47 : Gx.Good Try.prog 99 S_zz47 := good_of_run Try.func99 (of_decide_eq_true (by kernel_rfl)) fun x r h => ⟨A_zz47, big, mkCfg_ok tabOk, mkCfg_sigs (show SigsOk Try.prog [] from trivial), (run_zz47 big x).trans h⟩

/-! zz48 -/
def zz48_s (list_0 : Y4) : Option (Y4 × Unit) :=
  (appI [] list_0).bind fun xq1 =>
  some (xq1, (()))
def zz48 (list_0 : Y4) : Option (Y4 × Unit) := zz48_s list_0
def S_zz48 : Sig := { a := (.pair (.sl I) .unit), md := [0], mf := [], m := .unit, r := (.sl I), rf := (.o .i), f := fun x => zz48 x.1 }
def A_zz48 : Cfg := mkCfg tab [] []
theorem run_zz48 (N : Nat) (x : (S_zz48).a.den) : runF (A_zz48) N Try.f101 S_zz48 x = zz48 x.1 := by kernel_rfl
theorem fn_zz48 : FnOk Try.prog 101 := ⟨_, Try.func101, by kernel_rfl, by kernel_rfl⟩
theorem good_zz48 : Gx.Good Try.prog 101 S_zz48 := good_of_run Try.func101 (of_decide_eq_true (by kernel_rfl)) fun x r h => ⟨A_zz48, big, mkCfg_ok tabOk, mkCfg_sigs (show SigsOk Try.prog [] from trivial), (run_zz48 big x).trans h⟩

/-! zz49 -/
def zz49_b7 (rec : Y4 → Int → Int → Int → Int → Option (Bool × (Y4 × Unit))) (k : Y4 → Option (Bool × (Y4 × Unit))) (p0 : Y4) (x1 : Int) (y2 : Int) (t25 : Int) (t26 : Int) : Option (Bool × (Y4 × Unit)) :=
  cond (decide (t26 < t25))
  ((atI p0 t26).bind fun _ =>
  (p0[t26.toNat]?).bind fun xq3 =>
  cond (decide (xq3 = y2))
  ((atI p0 t26).bind fun _ =>
  (p0[t26.toNat]?).bind fun xq4 =>
  rec (p0.set t26.toNat x1) x1 y2 t25 (IntKind.i64.wrap (t26 + (1 : Int))))
  (rec p0 x1 y2 t25 (IntKind.i64.wrap (t26 + (1 : Int)))))
  (k p0)
def zz49_a7 (p0 : Y4) : Option (Bool × (Y4 × Unit)) :=
  some (true, (p0, ()))
def zz49_s (L7 : Y4 → Int → Int → Int → Int → Option (Bool × (Y4 × Unit))) (p_0 : Y4) (x_1 : Int) (y_2 : Int) : Option (Bool × (Y4 × Unit)) :=
  (atI p_0 x_1).bind fun _ =>
  (p_0[x_1.toNat]?).bind fun xq1 =>
  (atI p_0 y_2).bind fun _ =>
  (p_0[y_2.toNat]?).bind fun xq2 =>
  cond (decide (xq1 = xq2))
  (some (false, (p_0, ())))
  (cond (decide (xq2 < xq1))
  (L7 p_0 xq2 xq1 (p_0.length : Int) (0 : Int))
  (L7 p_0 xq1 xq2 (p_0.length : Int) (0 : Int)))
def zz49_l7 (N : Nat) (k : Y4 → Option (Bool × (Y4 × Unit))) : Nat → Y4 → Int → Int → Int → Int → Option (Bool × (Y4 × Unit))
  | 0, _, _, _, _, _ => none
  | m + 1, p0, x1, y2, t25, t26 => zz49_b7 (zz49_l7 N k m) k p0 x1 y2 t25 t26
def zz49_F7 (N : Nat) (p0 : Y4) (x1 : Int) (y2 : Int) (t25 : Int) (t26 : Int) : Option (Bool × (Y4 × Unit)) := zz49_l7 N (zz49_a7) N p0 x1 y2 t25 t26
def zz49 (N : Nat) (p_0 : Y4) (x_1 : Int) (y_2 : Int) : Option (Bool × (Y4 × Unit)) := zz49_s (zz49_F7 N) p_0 x_1 y_2
def S_zz49 : Sig := { a := (.pair (.sl I) (.pair I (.pair I .unit))), md := [1, 0, 0], mf := [(.o .i)], m := (.pair (.sl I) .unit), r := .bool, rf := .i, f := fun x => zz49 big x.1 x.2.1 x.2.2.1 }
def A_zz49 : Cfg := mkCfg tab [] [(14, [.as (.sl I) (.o .i), .as I .i, .as I .i, .drop, .drop, .drop, .drop, .drop, .drop, .drop, .drop, .drop, .drop, .drop, .drop, .drop, .drop, .drop, .drop, .drop, .drop, .drop, .drop, .drop, .drop, .as I .i, .as I .i]), (25, [.as (.sl I) (.o .i)])]
noncomputable def zz49_R7 (N n : Nat) (K : Ex → St → Option (Bool × (Y4 × Unit))) (p0 : Y4) (x1 : Int) (y2 : Int) (t25 : Int) (t26 : Int) : Option (Bool × (Y4 × Unit)) := iter ((A_zz49).shape 14) (run (A_zz49) N (codeAt Try.f140 [1, 1, 1, 1, 0, 1, 0, 0])) n ([.val (.sl I) (.o .i) p0, .val I .i x1, .val I .i y2, .u, .u, .u, .u, .u, .u, .u, .u, .u, .u, .u, .u, .u, .u, .u, .u, .u, .u, .u, .u, .u, .u, .val I .i t25, .val I .i t26] ++ List.replicate 13 .u) K
noncomputable abbrev zz49_z : Ex → St → Option (Bool × (Y4 × Unit)) := finish (A_zz49) S_zz49 Try.f140.results.toList
noncomputable abbrev zz49_X7 (kX : St → Option (Bool × (Y4 × Unit))) : Y4 → Option (Bool × (Y4 × Unit)) := fun (p0 : Y4) => kX ([.val (.sl I) (.o .i) p0] ++ List.replicate 39 .u)
noncomputable abbrev zz49_E7 (kX : St → Option (Bool × (Y4 × Unit))) (kO : Nat → St → Option (Bool × (Y4 × Unit))) : Ex → St → Option (Bool × (Y4 × Unit)) := exK zz49_z 0 ((A_zz49).shape 25) kX kO
theorem zz49_step7 (N : Nat) (m : Nat) (kX : St → Option (Bool × (Y4 × Unit))) (kO : Nat → St → Option (Bool × (Y4 × Unit))) (p0 : Y4) (x1 : Int) (y2 : Int) (t25 : Int) (t26 : Int) : zz49_R7 N (m + 1) (zz49_E7 kX kO) p0 x1 y2 t25 t26 = zz49_b7 (zz49_R7 N m (zz49_E7 kX kO)) (zz49_X7 kX) p0 x1 y2 t25 t26 := by kernel_rfl
theorem zz49_iter7 (N : Nat) (kX : St → Option (Bool × (Y4 × Unit))) (kO : Nat → St → Option (Bool × (Y4 × Unit))) : ∀ (n : Nat) (p0 : Y4) (x1 : Int) (y2 : Int) (t25 : Int) (t26 : Int), zz49_R7 N n (zz49_E7 kX kO) p0 x1 y2 t25 t26 = zz49_l7 N (zz49_X7 kX) n p0 x1 y2 t25 t26
  | 0, _, _, _, _, _ => rfl
  | m + 1, p0, x1, y2, t25, t26 => by
    have hrec : zz49_R7 N m (zz49_E7 kX kO) = (zz49_l7 N (zz49_X7 kX) m) := (funext fun p0 => (funext fun x1 => (funext fun y2 => (funext fun t25 => (funext fun t26 => zz49_iter7 N kX kO m p0 x1 y2 t25 t26)))))
    refine (zz49_step7 N m kX kO p0 x1 y2 t25 t26).trans ?_
    rw [hrec]
    rfl
noncomputable abbrev zz49_K7 (N : Nat) : Ex → St → Option (Bool × (Y4 × Unit)) := (blockK 0 (seqK ((A_zz49).shape 25) (run (A_zz49) N (codeAt Try.f140 [1, 1, 1, 1, 1])) zz49_z))
noncomputable abbrev zz49_k7 (N : Nat) : St → Option (Bool × (Y4 × Unit)) := fun st' => run (A_zz49) N (codeAt Try.f140 [1, 1, 1, 1, 1]) st' zz49_z
theorem zz49_after7 (N : Nat) (p0 : Y4) : zz49_X7 (zz49_k7 N) p0 = zz49_a7 p0 := by kernel_rfl
theorem zz49_in7 (N : Nat) (p0 : Y4) (x1 : Int) (y2 : Int) (t25 : Int) (t26 : Int) : zz49_R7 N N (zz49_K7 N) p0 x1 y2 t25 t26 = zz49_F7 N p0 x1 y2 t25 t26 :=
  have h : zz49_X7 (zz49_k7 N) = (zz49_a7) := (funext fun p0 => zz49_after7 N p0)
  ((iter_ex (fun st => by kernel_rfl) (fun st => by kernel_rfl)).trans (zz49_iter7 N (zz49_k7 N) (fun j st => (zz49_K7 N) (.exit j) st) N p0 x1 y2 t25 t26)).trans (congrArg (fun k => zz49_l7 N k N p0 x1 y2 t25 t26) h)
theorem run0_zz49 (N : Nat) (x : (S_zz49).a.den) : runF (A_zz49) N Try.f140 S_zz49 x = (zz49_s (zz49_R7 N N (zz49_K7 N)) x.1 x.2.1 x.2.2.1) := by kernel_rfl
theorem run_zz49 (N : Nat) (x : (S_zz49).a.den) : runF (A_zz49) N Try.f140 S_zz49 x = zz49 N x.1 x.2.1 x.2.2.1 := by
  refine (run0_zz49 N x).trans ?_
  rw [(funext fun p0 => (funext fun x1 => (funext fun y2 => (funext fun t25 => (funext fun t26 => zz49_in7 N p0 x1 y2 t25 t26)))))]
  rfl
theorem fn_zz49 : FnOk Try.prog 140 := ⟨_, Try.func140, by kernel_rfl, by kernel_rfl⟩
theorem good_zz49 : Gx.Good Try.prog 140 S_zz49 := good_of_run Try.func140 (of_decide_eq_true (by kernel_rfl)) fun x r h => ⟨A_zz49, big, mkCfg_ok tabOk, mkCfg_sigs (show SigsOk Try.prog [] from trivial), (run_zz49 big x).trans h⟩

/-! zz50 -/
def zz50_b13 (rec : Y4 → Y7 → Bool → Bool → Y6 → Int → Int → (List Y6) → Int → Int → Y4 → Int → Int → Option (Bool × (Y4 × Unit))) (k : Y4 → Y7 → Bool → Bool → Y6 → Int → Int → (List Y6) → Int → Int → Option (Bool × (Y4 × Unit))) (p1 : Y4) (a2 : Y7) (was5 : Bool) (changed6 : Bool) (f8 : Y6) (step9 : Int) (k10 : Int) (t16 : (List Y6)) (t17 : Int) (t18 : Int) (t29 : Y4) (t30 : Int) (t31 : Int) : Option (Bool × (Y4 × Unit)) :=
  cond (decide (t31 < t30))
  ((atI t29 t31).bind fun xq2 =>
  (quoI IntKind.i64 t31 step9).bind fun xq3 =>
  (remI xq3 a2.1).bind fun xq4 =>
  (atI p1 xq4).bind fun _ =>
  (p1[xq4.toNat]?).bind fun xq5 =>
  (atI f8.2.1 (IntKind.i64.wrap (t31 + (IntKind.i64.wrap ((IntKind.i64.wrap (xq5 - xq4)) * step9))))).bind fun xq6 =>
  (zz49 big p1 xq2 xq6).bind fun rq7 =>
  cond rq7.1
  (rec rq7.2.1 a2 true true f8 step9 k10 t16 t17 t18 t29 t30 (IntKind.i64.wrap (t31 + (1 : Int))))
  (rec rq7.2.1 a2 was5 changed6 f8 step9 k10 t16 t17 t18 t29 t30 (IntKind.i64.wrap (t31 + (1 : Int)))))
  (k p1 a2 was5 changed6 f8 step9 k10 t16 t17 t18)
def zz50_a13 (rec : Y4 → Y7 → Bool → Bool → Y6 → Int → Int → (List Y6) → Int → Int → Option (Bool × (Y4 × Unit))) (p1 : Y4) (a2 : Y7) (was5 : Bool) (changed6 : Bool) (f8 : Y6) (step9 : Int) (k10 : Int) (t16 : (List Y6)) (t17 : Int) (t18 : Int) : Option (Bool × (Y4 × Unit)) :=
  rec p1 a2 was5 changed6 f8 (IntKind.i64.wrap (step9 * a2.1)) (IntKind.i64.wrap (k10 + (1 : Int))) t16 t17 t18
def zz50_b10 (L13 : Y4 → Y7 → Bool → Bool → Y6 → Int → Int → (List Y6) → Int → Int → Y4 → Int → Int → Option (Bool × (Y4 × Unit))) (k : Y4 → Y7 → Bool → Bool → (List Y6) → Int → Int → Option (Bool × (Y4 × Unit))) (p1 : Y4) (a2 : Y7) (was5 : Bool) (changed6 : Bool) (f8 : Y6) (step9 : Int) (k10 : Int) (t16 : (List Y6)) (t17 : Int) (t18 : Int) : Option (Bool × (Y4 × Unit)) :=
  cond (decide (k10 < f8.1))
  (L13 p1 a2 was5 changed6 f8 step9 k10 t16 t17 t18 f8.2.1 (f8.2.1.length : Int) (0 : Int))
  (k p1 a2 was5 changed6 t16 t17 t18)
def zz50_a10 (rec : Y4 → Y7 → Bool → Bool → (List Y6) → Int → Int → Option (Bool × (Y4 × Unit))) (p1 : Y4) (a2 : Y7) (was5 : Bool) (changed6 : Bool) (t16 : (List Y6)) (t17 : Int) (t18 : Int) : Option (Bool × (Y4 × Unit)) :=
  rec p1 a2 was5 changed6 t16 t17 (IntKind.i64.wrap (t18 + (1 : Int)))
def zz50_b6 (L10 : Y4 → Y7 → Bool → Bool → Y6 → Int → Int → (List Y6) → Int → Int → Option (Bool × (Y4 × Unit))) (k : Y4 → Y7 → Bool → Bool → Option (Bool × (Y4 × Unit))) (p1 : Y4) (a2 : Y7) (was5 : Bool) (changed6 : Bool) (t16 : (List Y6)) (t17 : Int) (t18 : Int) : Option (Bool × (Y4 × Unit)) :=
  cond (decide (t18 < t17))
  ((atI t16 t18).bind fun xq1 =>
  L10 p1 a2 was5 changed6 xq1 (1 : Int) (0 : Int) t16 t17 t18)
  (k p1 a2 was5 changed6)
def zz50_a6 (rec : Y4 → Y7 → Bool → Bool → Option (Bool × (Y4 × Unit))) (p1 : Y4) (a2 : Y7) (was5 : Bool) (changed6 : Bool) : Option (Bool × (Y4 × Unit)) :=
  rec p1 a2 was5 changed6
def zz50_b3 (L6 : Y4 → Y7 → Bool → Bool → (List Y6) → Int → Int → Option (Bool × (Y4 × Unit))) (k : Y4 → Bool → Option (Bool × (Y4 × Unit))) (p1 : Y4) (a2 : Y7) (was5 : Bool) (changed6 : Bool) : Option (Bool × (Y4 × Unit)) :=
  cond changed6
  (L6 p1 a2 was5 false a2.2.1 (a2.2.1.length : Int) (0 : Int))
  (k p1 was5)
def zz50_a3 (p1 : Y4) (was5 : Bool) : Option (Bool × (Y4 × Unit)) :=
  some (was5, (p1, ()))
def zz50_s (L3 : Y4 → Y7 → Bool → Bool → Option (Bool × (Y4 × Unit))) (a_0 : Y7) (p_1 : Y4) : Option (Bool × (Y4 × Unit)) :=
  L3 p_1 a_0 false true
def zz50_l13 (N : Nat) (k : Y4 → Y7 → Bool → Bool → Y6 → Int → Int → (List Y6) → Int → Int → Option (Bool × (Y4 × Unit))) : Nat → Y4 → Y7 → Bool → Bool → Y6 → Int → Int → (List Y6) → Int → Int → Y4 → Int → Int → Option (Bool × (Y4 × Unit))
  | 0, _, _, _, _, _, _, _, _, _, _, _, _, _ => none
  | m + 1, p1, a2, was5, changed6, f8, step9, k10, t16, t17, t18, t29, t30, t31 => zz50_b13 (zz50_l13 N k m) k p1 a2 was5 changed6 f8 step9 k10 t16 t17 t18 t29 t30 t31
def zz50_F13 (N : Nat) (rec : Y4 → Y7 → Bool → Bool → Y6 → Int → Int → (List Y6) → Int → Int → Option (Bool × (Y4 × Unit))) (k : Y4 → Y7 → Bool → Bool → (List Y6) → Int → Int → Option (Bool × (Y4 × Unit))) (p1 : Y4) (a2 : Y7) (was5 : Bool) (changed6 : Bool) (f8 : Y6) (step9 : Int) (k10 : Int) (t16 : (List Y6)) (t17 : Int) (t18 : Int) (t29 : Y4) (t30 : Int) (t31 : Int) : Option (Bool × (Y4 × Unit)) := zz50_l13 N (zz50_a13 rec) N p1 a2 was5 changed6 f8 step9 k10 t16 t17 t18 t29 t30 t31
def zz50_l10 (N : Nat) (k : Y4 → Y7 → Bool → Bool → (List Y6) → Int → Int → Option (Bool × (Y4 × Unit))) : Nat → Y4 → Y7 → Bool → Bool → Y6 → Int → Int → (List Y6) → Int → Int → Option (Bool × (Y4 × Unit))
  | 0, _, _, _, _, _, _, _, _, _, _ => none
  | m + 1, p1, a2, was5, changed6, f8, step9, k10, t16, t17, t18 => zz50_b10 (zz50_F13 N (zz50_l10 N k m) k) k p1 a2 was5 changed6 f8 step9 k10 t16 t17 t18
def zz50_F10 (N : Nat) (rec : Y4 → Y7 → Bool → Bool → (List Y6) → Int → Int → Option (Bool × (Y4 × Unit))) (k : Y4 → Y7 → Bool → Bool → Option (Bool × (Y4 × Unit))) (p1 : Y4) (a2 : Y7) (was5 : Bool) (changed6 : Bool) (f8 : Y6) (step9 : Int) (k10 : Int) (t16 : (List Y6)) (t17 : Int) (t18 : Int) : Option (Bool × (Y4 × Unit)) := zz50_l10 N (zz50_a10 rec) N p1 a2 was5 changed6 f8 step9 k10 t16 t17 t18
def zz50_l6 (N : Nat) (k : Y4 → Y7 → Bool → Bool → Option (Bool × (Y4 × Unit))) : Nat → Y4 → Y7 → Bool → Bool → (List Y6) → Int → Int → Option (Bool × (Y4 × Unit))
  | 0, _, _, _, _, _, _, _ => none
  | m + 1, p1, a2, was5, changed6, t16, t17, t18 => zz50_b6 (zz50_F10 N (zz50_l6 N k m) k) k p1 a2 was5 changed6 t16 t17 t18
def zz50_F6 (N : Nat) (rec : Y4 → Y7 → Bool → Bool → Option (Bool × (Y4 × Unit))) (k : Y4 → Bool → Option (Bool × (Y4 × Unit))) (p1 : Y4) (a2 : Y7) (was5 : Bool) (changed6 : Bool) (t16 : (List Y6)) (t17 : Int) (t18 : Int) : Option (Bool × (Y4 × Unit)) := zz50_l6 N (zz50_a6 rec) N p1 a2 was5 changed6 t16 t17 t18
def zz50_l3 (N : Nat) (k : Y4 → Bool → Option (Bool × (Y4 × Unit))) : Nat → Y4 → Y7 → Bool → Bool → Option (Bool × (Y4 × Unit))
  | 0, _, _, _, _ => none
  | m + 1, p1, a2, was5, changed6 => zz50_b3 (zz50_F6 N (zz50_l3 N k m) k) k p1 a2 was5 changed6
def zz50_F3 (N : Nat) (p1 : Y4) (a2 : Y7) (was5 : Bool) (changed6 : Bool) : Option (Bool × (Y4 × Unit)) := zz50_l3 N (zz50_a3) N p1 a2 was5 changed6
def zz50 (N : Nat) (a_0 : Y7) (p_1 : Y4) : Option (Bool × (Y4 × Unit)) := zz50_s (zz50_F3 N) a_0 p_1
def S_zz50 : Sig := { a := (.pair (.pair I (.pair (.sl (.pair I (.pair (.sl I) .unit))) .unit)) (.pair (.sl I) .unit)), md := [0, 1], mf := [(.o .i)], m := (.pair (.sl I) .unit), r := .bool, rf := .i, f := fun x => zz50 big x.1 x.2.1 }
def A_zz50 : Cfg := mkCfg tab [(140, S_zz49)] [(6, [.drop, .as (.sl I) (.o .i), .as (.ptr (.pair I (.pair (.sl (.pair I (.pair (.sl I) .unit))) .unit))) (.o .i), .drop, .drop, .as .bool .i, .as .bool .i]), (12, [.drop, .as (.sl I) (.o .i), .as (.ptr (.pair I (.pair (.sl (.pair I (.pair (.sl I) .unit))) .unit))) (.o .i), .drop, .drop, .as .bool .i, .as .bool .i, .drop, .drop, .drop, .drop, .drop, .drop, .drop, .drop, .drop, .as (.sl (.pair I (.pair (.sl I) .unit))) .i, .as I .i, .as I .i]), (43, [.drop, .as (.sl I) (.o .i), .drop, .drop, .drop, .as .bool .i]), (20, [.drop, .as (.sl I) (.o .i), .as (.ptr (.pair I (.pair (.sl (.pair I (.pair (.sl I) .unit))) .unit))) (.o .i), .drop, .drop, .as .bool .i, .as .bool .i, .drop, .as (.ptr (.pair I (.pair (.sl I) .unit))) (.o .i), .as I .i, .as I .i, .drop, .drop, .drop, .drop, .drop, .as (.sl (.pair I (.pair (.sl I) .unit))) .i, .as I .i, .as I .i]), (26, [.drop, .as (.sl I) (.o .i), .as (.ptr (.pair I (.pair (.sl (.pair I (.pair (.sl I) .unit))) .unit))) (.o .i), .drop, .drop, .as .bool .i, .as .bool .i, .drop, .as (.ptr (.pair I (.pair (.sl I) .unit))) (.o .i), .as I .i, .as I .i, .drop, .drop, .drop, .drop, .drop, .as (.sl (.pair I (.pair (.sl I) .unit))) .i, .as I .i, .as I .i, .drop, .drop, .drop, .drop, .drop, .drop, .drop, .drop, .drop, .drop, .as (.sl I) .i, .as I .i, .as I .i]), (41, [.drop, .as (.sl I) (.o .i), .as (.ptr (.pair I (.pair (.sl (.pair I (.pair (.sl I) .unit))) .unit))) (.o .i), .drop, .drop, .as .bool .i, .as .bool .i, .drop, .drop, .drop, .drop, .drop, .drop, .drop, .drop, .drop, .as (.sl (.pair I (.pair (.sl I) .unit))) .i, .as I .i, .as I .i]), (39, [.drop, .as (.sl I) (.o .i), .as (.ptr (.pair I (.pair (.sl (.pair I (.pair (.sl I) .unit))) .unit))) (.o .i), .drop, .drop, .as .bool .i, .as .bool .i, .drop, .as (.ptr (.pair I (.pair (.sl I) .unit))) (.o .i), .as I .i, .as I .i, .drop, .drop, .drop, .drop, .drop, .as (.sl (.pair I (.pair (.sl I) .unit))) .i, .as I .i, .as I .i])]
noncomputable def zz50_R3 (N n : Nat) (K : Ex → St → Option (Bool × (Y4 × Unit))) (p1 : Y4) (a2 : Y7) (was5 : Bool) (changed6 : Bool) : Option (Bool × (Y4 × Unit)) := iter ((A_zz50).shape 6) (run (A_zz50) N (codeAt Try.f100 [1, 1, 0, 1, 0, 0])) n ([.u, .val (.sl I) (.o .i) p1, .val (.ptr (.pair I (.pair (.sl (.pair I (.pair (.sl I) .unit))) .unit))) (.o .i) a2, .u, .u, .val .bool .i was5, .val .bool .i changed6] ++ List.replicate 59 .u) K
noncomputable def zz50_R6 (N n : Nat) (K : Ex → St → Option (Bool × (Y4 × Unit))) (p1 : Y4) (a2 : Y7) (was5 : Bool) (changed6 : Bool) (t16 : (List Y6)) (t17 : Int) (t18 : Int) : Option (Bool × (Y4 × Unit)) := iter ((A_zz50).shape 12) (run (A_zz50) N (codeAt Try.f100 [1, 1, 0, 1, 0, 0, 1, 0, 1, 1, 0, 0])) n ([.u, .val (.sl I) (.o .i) p1, .val (.ptr (.pair I (.pair (.sl (.pair I (.pair (.sl I) .unit))) .unit))) (.o .i) a2, .u, .u, .val .bool .i was5, .val .bool .i changed6, .u, .u, .u, .u, .u, .u, .u, .u, .u, .val (.sl (.pair I (.pair (.sl I) .unit))) .i t16, .val I .i t17, .val I .i t18] ++ List.replicate 47 .u) K
noncomputable def zz50_R10 (N n : Nat) (K : Ex → St → Option (Bool × (Y4 × Unit))) (p1 : Y4) (a2 : Y7) (was5 : Bool) (changed6 : Bool) (f8 : Y6) (step9 : Int) (k10 : Int) (t16 : (List Y6)) (t17 : Int) (t18 : Int) : Option (Bool × (Y4 × Unit)) := iter ((A_zz50).shape 20) (run (A_zz50) N (codeAt Try.f100 [1, 1, 0, 1, 0, 0, 1, 0, 1, 1, 0, 0, 1, 1, 0, 0, 1, 1, 1, 0, 0])) n ([.u, .val (.sl I) (.o .i) p1, .val (.ptr (.pair I (.pair (.sl (.pair I (.pair (.sl I) .unit))) .unit))) (.o .i) a2, .u, .u, .val .bool .i was5, .val .bool .i changed6, .u, .val (.ptr (.pair I (.pair (.sl I) .unit))) (.o .i) f8, .val I .i step9, .val I .i k10, .u, .u, .u, .u, .u, .val (.sl (.pair I (.pair (.sl I) .unit))) .i t16, .val I .i t17, .val I .i t18] ++ List.replicate 47 .u) K
noncomputable def zz50_R13 (N n : Nat) (K : Ex → St → Option (Bool × (Y4 × Unit))) (p1 : Y4) (a2 : Y7) (was5 : Bool) (changed6 : Bool) (f8 : Y6) (step9 : Int) (k10 : Int) (t16 : (List Y6)) (t17 : Int) (t18 : Int) (t29 : Y4) (t30 : Int) (t31 : Int) : Option (Bool × (Y4 × Unit)) := iter ((A_zz50).shape 26) (run (A_zz50) N (codeAt Try.f100 [1, 1, 0, 1, 0, 0, 1, 0, 1, 1, 0, 0, 1, 1, 0, 0, 1, 1, 1, 0, 0, 1, 0, 0, 0, 1, 0, 0])) n ([.u, .val (.sl I) (.o .i) p1, .val (.ptr (.pair I (.pair (.sl (.pair I (.pair (.sl I) .unit))) .unit))) (.o .i) a2, .u, .u, .val .bool .i was5, .val .bool .i changed6, .u, .val (.ptr (.pair I (.pair (.sl I) .unit))) (.o .i) f8, .val I .i step9, .val I .i k10, .u, .u, .u, .u, .u, .val (.sl (.pair I (.pair (.sl I) .unit))) .i t16, .val I .i t17, .val I .i t18, .u, .u, .u, .u, .u, .u, .u, .u, .u, .u, .val (.sl I) .i t29, .val I .i t30, .val I .i t31] ++ List.replicate 34 .u) K
noncomputable abbrev zz50_z : Ex → St → Option (Bool × (Y4 × Unit)) := finish (A_zz50) S_zz50 Try.f100.results.toList
noncomputable abbrev zz50_X3 (kX : St → Option (Bool × (Y4 × Unit))) : Y4 → Bool → Option (Bool × (Y4 × Unit)) := fun (p1 : Y4) (was5 : Bool) => kX ([.u, .val (.sl I) (.o .i) p1, .u, .u, .u, .val .bool .i was5] ++ List.replicate 60 .u)
noncomputable abbrev zz50_E3 (kX : St → Option (Bool × (Y4 × Unit))) (kO : Nat → St → Option (Bool × (Y4 × Unit))) : Ex → St → Option (Bool × (Y4 × Unit)) := exK zz50_z 0 ((A_zz50).shape 43) kX kO
noncomputable abbrev zz50_X6 (kX : St → Option (Bool × (Y4 × Unit))) : Y4 → Y7 → Bool → Bool → Option (Bool × (Y4 × Unit)) := fun (p1 : Y4) (a2 : Y7) (was5 : Bool) (changed6 : Bool) => kX ([.u, .val (.sl I) (.o .i) p1, .val (.ptr (.pair I (.pair (.sl (.pair I (.pair (.sl I) .unit))) .unit))) (.o .i) a2, .u, .u, .val .bool .i was5, .val .bool .i changed6] ++ List.replicate 59 .u)
noncomputable abbrev zz50_E6 (kX : St → Option (Bool × (Y4 × Unit))) (kO : Nat → St → Option (Bool × (Y4 × Unit))) : Ex → St → Option (Bool × (Y4 × Unit)) := exK zz50_z 2 ((A_zz50).shape 6) kX kO
noncomputable abbrev zz50_X10 (kX : St → Option (Bool × (Y4 × Unit))) : Y4 → Y7 → Bool → Bool → (List Y6) → Int → Int → Option (Bool × (Y4 × Unit)) := fun (p1 : Y4) (a2 : Y7) (was5 : Bool) (changed6 : Bool) (t16 : (List Y6)) (t17 : Int) (t18 : Int) => kX ([.u, .val (.sl I) (.o .i) p1, .val (.ptr (.pair I (.pair (.sl (.pair I (.pair (.sl I) .unit))) .unit))) (.o .i) a2, .u, .u, .val .bool .i was5, .val .bool .i changed6, .u, .u, .u, .u, .u, .u, .u, .u, .u, .val (.sl (.pair I (.pair (.sl I) .unit))) .i t16, .val I .i t17, .val I .i t18] ++ List.replicate 47 .u)
noncomputable abbrev zz50_E10 (kX : St → Option (Bool × (Y4 × Unit))) (kO : Nat → St → Option (Bool × (Y4 × Unit))) : Ex → St → Option (Bool × (Y4 × Unit)) := exK zz50_z 4 ((A_zz50).shape 41) kX kO
noncomputable abbrev zz50_X13 (kX : St → Option (Bool × (Y4 × Unit))) : Y4 → Y7 → Bool → Bool → Y6 → Int → Int → (List Y6) → Int → Int → Option (Bool × (Y4 × Unit)) := fun (p1 : Y4) (a2 : Y7) (was5 : Bool) (changed6 : Bool) (f8 : Y6) (step9 : Int) (k10 : Int) (t16 : (List Y6)) (t17 : Int) (t18 : Int) => kX ([.u, .val (.sl I) (.o .i) p1, .val (.ptr (.pair I (.pair (.sl (.pair I (.pair (.sl I) .unit))) .unit))) (.o .i) a2, .u, .u, .val .bool .i was5, .val .bool .i changed6, .u, .val (.ptr (.pair I (.pair (.sl I) .unit))) (.o .i) f8, .val I .i step9, .val I .i k10, .u, .u, .u, .u, .u, .val (.sl (.pair I (.pair (.sl I) .unit))) .i t16, .val I .i t17, .val I .i t18] ++ List.replicate 47 .u)
noncomputable abbrev zz50_E13 (kX : St → Option (Bool × (Y4 × Unit))) (kO : Nat → St → Option (Bool × (Y4 × Unit))) : Ex → St → Option (Bool × (Y4 × Unit)) := exK zz50_z 6 ((A_zz50).shape 39) kX kO
theorem zz50_step13 (N : Nat) (m : Nat) (kX : St → Option (Bool × (Y4 × Unit))) (kO : Nat → St → Option (Bool × (Y4 × Unit))) (p1 : Y4) (a2 : Y7) (was5 : Bool) (changed6 : Bool) (f8 : Y6) (step9 : Int) (k10 : Int) (t16 : (List Y6)) (t17 : Int) (t18 : Int) (t29 : Y4) (t30 : Int) (t31 : Int) : zz50_R13 N (m + 1) (zz50_E13 kX kO) p1 a2 was5 changed6 f8 step9 k10 t16 t17 t18 t29 t30 t31 = zz50_b13 (zz50_R13 N m (zz50_E13 kX kO)) (zz50_X13 kX) p1 a2 was5 changed6 f8 step9 k10 t16 t17 t18 t29 t30 t31 := by kernel_rfl
theorem zz50_iter13 (N : Nat) (kX : St → Option (Bool × (Y4 × Unit))) (kO : Nat → St → Option (Bool × (Y4 × Unit))) : ∀ (n : Nat) (p1 : Y4) (a2 : Y7) (was5 : Bool) (changed6 : Bool) (f8 : Y6) (step9 : Int) (k10 : Int) (t16 : (List Y6)) (t17 : Int) (t18 : Int) (t29 : Y4) (t30 : Int) (t31 : Int), zz50_R13 N n (zz50_E13 kX kO) p1 a2 was5 changed6 f8 step9 k10 t16 t17 t18 t29 t30 t31 = zz50_l13 N (zz50_X13 kX) n p1 a2 was5 changed6 f8 step9 k10 t16 t17 t18 t29 t30 t31
  | 0, _, _, _, _, _, _, _, _, _, _, _, _, _ => rfl
  | m + 1, p1, a2, was5, changed6, f8, step9, k10, t16, t17, t18, t29, t30, t31 => by
    have hrec : zz50_R13 N m (zz50_E13 kX kO) = (zz50_l13 N (zz50_X13 kX) m) := (funext fun p1 => (funext fun a2 => (funext fun was5 => (funext fun changed6 => (funext fun f8 => (funext fun step9 => (funext fun k10 => (funext fun t16 => (funext fun t17 => (funext fun t18 => (funext fun t29 => (funext fun t30 => (funext fun t31 => zz50_iter13 N kX kO m p1 a2 was5 changed6 f8 step9 k10 t16 t17 t18 t29 t30 t31)))))))))))))
    refine (zz50_step13 N m kX kO p1 a2 was5 changed6 f8 step9 k10 t16 t17 t18 t29 t30 t31).trans ?_
    rw [hrec]
    rfl
noncomputable abbrev zz50_K13 (N : Nat) (m : Nat) (kX : St → Option (Bool × (Y4 × Unit))) (kO : Nat → St → Option (Bool × (Y4 × Unit))) : Ex → St → Option (Bool × (Y4 × Unit)) := (blockK 6 (seqK ((A_zz50).shape 39) (run (A_zz50) N (codeAt Try.f100 [1, 1, 0, 1, 0, 0, 1, 0, 1, 1, 0, 0, 1, 1, 0, 0, 1, 1, 1, 0, 0, 1, 0, 0, 1])) (blockK 5 (seqK ((A_zz50).shape 23) (run (A_zz50) N (codeAt Try.f100 [1, 1, 0, 1, 0, 0, 1, 0, 1, 1, 0, 0, 1, 1, 0, 0, 1, 1, 1, 0, 0, 1, 1])) (iterK ((A_zz50).shape 20) (run (A_zz50) N (codeAt Try.f100 [1, 1, 0, 1, 0, 0, 1, 0, 1, 1, 0, 0, 1, 1, 0, 0, 1, 1, 1, 0, 0])) m (zz50_E10 kX kO))))))
noncomputable abbrev zz50_k13 (N : Nat) (m : Nat) (kX : St → Option (Bool × (Y4 × Unit))) (kO : Nat → St → Option (Bool × (Y4 × Unit))) : St → Option (Bool × (Y4 × Unit)) := fun st' => run (A_zz50) N (codeAt Try.f100 [1, 1, 0, 1, 0, 0, 1, 0, 1, 1, 0, 0, 1, 1, 0, 0, 1, 1, 1, 0, 0, 1, 0, 0, 1]) st' (blockK 5 (seqK ((A_zz50).shape 23) (run (A_zz50) N (codeAt Try.f100 [1, 1, 0, 1, 0, 0, 1, 0, 1, 1, 0, 0, 1, 1, 0, 0, 1, 1, 1, 0, 0, 1, 1])) (iterK ((A_zz50).shape 20) (run (A_zz50) N (codeAt Try.f100 [1, 1, 0, 1, 0, 0, 1, 0, 1, 1, 0, 0, 1, 1, 0, 0, 1, 1, 1, 0, 0])) m (zz50_E10 kX kO))))
theorem zz50_after13 (N : Nat) (m : Nat) (kX : St → Option (Bool × (Y4 × Unit))) (kO : Nat → St → Option (Bool × (Y4 × Unit))) (p1 : Y4) (a2 : Y7) (was5 : Bool) (changed6 : Bool) (f8 : Y6) (step9 : Int) (k10 : Int) (t16 : (List Y6)) (t17 : Int) (t18 : Int) : zz50_X13 (zz50_k13 N m kX kO) p1 a2 was5 changed6 f8 step9 k10 t16 t17 t18 = zz50_a13 (zz50_R10 N m (zz50_E10 kX kO)) p1 a2 was5 changed6 f8 step9 k10 t16 t17 t18 := by kernel_rfl
theorem zz50_in13 (N : Nat) (m : Nat) (kX : St → Option (Bool × (Y4 × Unit))) (kO : Nat → St → Option (Bool × (Y4 × Unit))) (recF : Y4 → Y7 → Bool → Bool → Y6 → Int → Int → (List Y6) → Int → Int → Option (Bool × (Y4 × Unit))) (hrec : zz50_R10 N m (zz50_E10 kX kO) = recF) (p1 : Y4) (a2 : Y7) (was5 : Bool) (changed6 : Bool) (f8 : Y6) (step9 : Int) (k10 : Int) (t16 : (List Y6)) (t17 : Int) (t18 : Int) (t29 : Y4) (t30 : Int) (t31 : Int) : zz50_R13 N N (zz50_K13 N m kX kO) p1 a2 was5 changed6 f8 step9 k10 t16 t17 t18 t29 t30 t31 = zz50_F13 N recF (zz50_X10 kX) p1 a2 was5 changed6 f8 step9 k10 t16 t17 t18 t29 t30 t31 :=
  have h : zz50_X13 (zz50_k13 N m kX kO) = (zz50_a13 recF) := (funext fun p1 => (funext fun a2 => (funext fun was5 => (funext fun changed6 => (funext fun f8 => (funext fun step9 => (funext fun k10 => (funext fun t16 => (funext fun t17 => (funext fun t18 => (zz50_after13 N m kX kO p1 a2 was5 changed6 f8 step9 k10 t16 t17 t18).trans (by rw [hrec])))))))))))
  ((iter_ex (fun st => by kernel_rfl) (fun st => by kernel_rfl)).trans (zz50_iter13 N (zz50_k13 N m kX kO) (fun j st => (zz50_K13 N m kX kO) (.exit j) st) N p1 a2 was5 changed6 f8 step9 k10 t16 t17 t18 t29 t30 t31)).trans (congrArg (fun k => zz50_l13 N k N p1 a2 was5 changed6 f8 step9 k10 t16 t17 t18 t29 t30 t31) h)
theorem zz50_step10 (N : Nat) (m : Nat) (kX : St → Option (Bool × (Y4 × Unit))) (kO : Nat → St → Option (Bool × (Y4 × Unit))) (p1 : Y4) (a2 : Y7) (was5 : Bool) (changed6 : Bool) (f8 : Y6) (step9 : Int) (k10 : Int) (t16 : (List Y6)) (t17 : Int) (t18 : Int) : zz50_R10 N (m + 1) (zz50_E10 kX kO) p1 a2 was5 changed6 f8 step9 k10 t16 t17 t18 = zz50_b10 (zz50_R13 N N (zz50_K13 N m kX kO)) (zz50_X10 kX) p1 a2 was5 changed6 f8 step9 k10 t16 t17 t18 := by kernel_rfl
theorem zz50_iter10 (N : Nat) (kX : St → Option (Bool × (Y4 × Unit))) (kO : Nat → St → Option (Bool × (Y4 × Unit))) : ∀ (n : Nat) (p1 : Y4) (a2 : Y7) (was5 : Bool) (changed6 : Bool) (f8 : Y6) (step9 : Int) (k10 : Int) (t16 : (List Y6)) (t17 : Int) (t18 : Int), zz50_R10 N n (zz50_E10 kX kO) p1 a2 was5 changed6 f8 step9 k10 t16 t17 t18 = zz50_l10 N (zz50_X10 kX) n p1 a2 was5 changed6 f8 step9 k10 t16 t17 t18
  | 0, _, _, _, _, _, _, _, _, _, _ => rfl
  | m + 1, p1, a2, was5, changed6, f8, step9, k10, t16, t17, t18 => by
    have hrec : zz50_R10 N m (zz50_E10 kX kO) = (zz50_l10 N (zz50_X10 kX) m) := (funext fun p1 => (funext fun a2 => (funext fun was5 => (funext fun changed6 => (funext fun f8 => (funext fun step9 => (funext fun k10 => (funext fun t16 => (funext fun t17 => (funext fun t18 => zz50_iter10 N kX kO m p1 a2 was5 changed6 f8 step9 k10 t16 t17 t18))))))))))
    refine (zz50_step10 N m kX kO p1 a2 was5 changed6 f8 step9 k10 t16 t17 t18).trans ?_
    rw [(funext fun p1 => (funext fun a2 => (funext fun was5 => (funext fun changed6 => (funext fun f8 => (funext fun step9 => (funext fun k10 => (funext fun t16 => (funext fun t17 => (funext fun t18 => (funext fun t29 => (funext fun t30 => (funext fun t31 => zz50_in13 N m kX kO (zz50_l10 N (zz50_X10 kX) m) hrec p1 a2 was5 changed6 f8 step9 k10 t16 t17 t18 t29 t30 t31)))))))))))))]
    rfl
noncomputable abbrev zz50_K10 (N : Nat) (m : Nat) (kX : St → Option (Bool × (Y4 × Unit))) (kO : Nat → St → Option (Bool × (Y4 × Unit))) : Ex → St → Option (Bool × (Y4 × Unit)) := (blockK 4 (blockK 3 (seqK ((A_zz50).shape 41) (run (A_zz50) N (codeAt Try.f100 [1, 1, 0, 1, 0, 0, 1, 0, 1, 1, 0, 0, 1, 1, 1])) (iterK ((A_zz50).shape 12) (run (A_zz50) N (codeAt Try.f100 [1, 1, 0, 1, 0, 0, 1, 0, 1, 1, 0, 0])) m (zz50_E6 kX kO)))))
noncomputable abbrev zz50_k10 (N : Nat) (m : Nat) (kX : St → Option (Bool × (Y4 × Unit))) (kO : Nat → St → Option (Bool × (Y4 × Unit))) : St → Option (Bool × (Y4 × Unit)) := fun st' => run (A_zz50) N (codeAt Try.f100 [1, 1, 0, 1, 0, 0, 1, 0, 1, 1, 0, 0, 1, 1, 1]) st' (iterK ((A_zz50).shape 12) (run (A_zz50) N (codeAt Try.f100 [1, 1, 0, 1, 0, 0, 1, 0, 1, 1, 0, 0])) m (zz50_E6 kX kO))
theorem zz50_after10 (N : Nat) (m : Nat) (kX : St → Option (Bool × (Y4 × Unit))) (kO : Nat → St → Option (Bool × (Y4 × Unit))) (p1 : Y4) (a2 : Y7) (was5 : Bool) (changed6 : Bool) (t16 : (List Y6)) (t17 : Int) (t18 : Int) : zz50_X10 (zz50_k10 N m kX kO) p1 a2 was5 changed6 t16 t17 t18 = zz50_a10 (zz50_R6 N m (zz50_E6 kX kO)) p1 a2 was5 changed6 t16 t17 t18 := by kernel_rfl
theorem zz50_in10 (N : Nat) (m : Nat) (kX : St → Option (Bool × (Y4 × Unit))) (kO : Nat → St → Option (Bool × (Y4 × Unit))) (recF : Y4 → Y7 → Bool → Bool → (List Y6) → Int → Int → Option (Bool × (Y4 × Unit))) (hrec : zz50_R6 N m (zz50_E6 kX kO) = recF) (p1 : Y4) (a2 : Y7) (was5 : Bool) (changed6 : Bool) (f8 : Y6) (step9 : Int) (k10 : Int) (t16 : (List Y6)) (t17 : Int) (t18 : Int) : zz50_R10 N N (zz50_K10 N m kX kO) p1 a2 was5 changed6 f8 step9 k10 t16 t17 t18 = zz50_F10 N recF (zz50_X6 kX) p1 a2 was5 changed6 f8 step9 k10 t16 t17 t18 :=
  have h : zz50_X10 (zz50_k10 N m kX kO) = (zz50_a10 recF) := (funext fun p1 => (funext fun a2 => (funext fun was5 => (funext fun changed6 => (funext fun t16 => (funext fun t17 => (funext fun t18 => (zz50_after10 N m kX kO p1 a2 was5 changed6 t16 t17 t18).trans (by rw [hrec]))))))))
  ((iter_ex (fun st => by kernel_rfl) (fun st => by kernel_rfl)).trans (zz50_iter10 N (zz50_k10 N m kX kO) (fun j st => (zz50_K10 N m kX kO) (.exit j) st) N p1 a2 was5 changed6 f8 step9 k10 t16 t17 t18)).trans (congrArg (fun k => zz50_l10 N k N p1 a2 was5 changed6 f8 step9 k10 t16 t17 t18) h)
theorem zz50_step6 (N : Nat) (m : Nat) (kX : St → Option (Bool × (Y4 × Unit))) (kO : Nat → St → Option (Bool × (Y4 × Unit))) (p1 : Y4) (a2 : Y7) (was5 : Bool) (changed6 : Bool) (t16 : (List Y6)) (t17 : Int) (t18 : Int) : zz50_R6 N (m + 1) (zz50_E6 kX kO) p1 a2 was5 changed6 t16 t17 t18 = zz50_b6 (zz50_R10 N N (zz50_K10 N m kX kO)) (zz50_X6 kX) p1 a2 was5 changed6 t16 t17 t18 := by kernel_rfl
theorem zz50_iter6 (N : Nat) (kX : St → Option (Bool × (Y4 × Unit))) (kO : Nat → St → Option (Bool × (Y4 × Unit))) : ∀ (n : Nat) (p1 : Y4) (a2 : Y7) (was5 : Bool) (changed6 : Bool) (t16 : (List Y6)) (t17 : Int) (t18 : Int), zz50_R6 N n (zz50_E6 kX kO) p1 a2 was5 changed6 t16 t17 t18 = zz50_l6 N (zz50_X6 kX) n p1 a2 was5 changed6 t16 t17 t18
  | 0, _, _, _, _, _, _, _ => rfl
  | m + 1, p1, a2, was5, changed6, t16, t17, t18 => by
    have hrec : zz50_R6 N m (zz50_E6 kX kO) = (zz50_l6 N (zz50_X6 kX) m) := (funext fun p1 => (funext fun a2 => (funext fun was5 => (funext fun changed6 => (funext fun t16 => (funext fun t17 => (funext fun t18 => zz50_iter6 N kX kO m p1 a2 was5 changed6 t16 t17 t18)))))))
    refine (zz50_step6 N m kX kO p1 a2 was5 changed6 t16 t17 t18).trans ?_
    rw [(funext fun p1 => (funext fun a2 => (funext fun was5 => (funext fun changed6 => (funext fun f8 => (funext fun step9 => (funext fun k10 => (funext fun t16 => (funext fun t17 => (funext fun t18 => zz50_in10 N m kX kO (zz50_l6 N (zz50_X6 kX) m) hrec p1 a2 was5 changed6 f8 step9 k10 t16 t17 t18))))))))))]
    rfl
noncomputable abbrev zz50_K6 (N : Nat) (m : Nat) (kX : St → Option (Bool × (Y4 × Unit))) (kO : Nat → St → Option (Bool × (Y4 × Unit))) : Ex → St → Option (Bool × (Y4 × Unit)) := (blockK 2 (blockK 1 (iterK ((A_zz50).shape 6) (run (A_zz50) N (codeAt Try.f100 [1, 1, 0, 1, 0, 0])) m (zz50_E3 kX kO))))
noncomputable abbrev zz50_k6 (N : Nat) (m : Nat) (kX : St → Option (Bool × (Y4 × Unit))) (kO : Nat → St → Option (Bool × (Y4 × Unit))) : St → Option (Bool × (Y4 × Unit)) := fun st' => iter ((A_zz50).shape 6) (run (A_zz50) N (codeAt Try.f100 [1, 1, 0, 1, 0, 0])) m st' (zz50_E3 kX kO)
theorem zz50_after6 (N : Nat) (m : Nat) (kX : St → Option (Bool × (Y4 × Unit))) (kO : Nat → St → Option (Bool × (Y4 × Unit))) (p1 : Y4) (a2 : Y7) (was5 : Bool) (changed6 : Bool) : zz50_X6 (zz50_k6 N m kX kO) p1 a2 was5 changed6 = zz50_a6 (zz50_R3 N m (zz50_E3 kX kO)) p1 a2 was5 changed6 := by kernel_rfl
theorem zz50_in6 (N : Nat) (m : Nat) (kX : St → Option (Bool × (Y4 × Unit))) (kO : Nat → St → Option (Bool × (Y4 × Unit))) (recF : Y4 → Y7 → Bool → Bool → Option (Bool × (Y4 × Unit))) (hrec : zz50_R3 N m (zz50_E3 kX kO) = recF) (p1 : Y4) (a2 : Y7) (was5 : Bool) (changed6 : Bool) (t16 : (List Y6)) (t17 : Int) (t18 : Int) : zz50_R6 N N (zz50_K6 N m kX kO) p1 a2 was5 changed6 t16 t17 t18 = zz50_F6 N recF (zz50_X3 kX) p1 a2 was5 changed6 t16 t17 t18 :=
  have h : zz50_X6 (zz50_k6 N m kX kO) = (zz50_a6 recF) := (funext fun p1 => (funext fun a2 => (funext fun was5 => (funext fun changed6 => (zz50_after6 N m kX kO p1 a2 was5 changed6).trans (by rw [hrec])))))
  ((iter_ex (fun st => by kernel_rfl) (fun st => by kernel_rfl)).trans (zz50_iter6 N (zz50_k6 N m kX kO) (fun j st => (zz50_K6 N m kX kO) (.exit j) st) N p1 a2 was5 changed6 t16 t17 t18)).trans (congrArg (fun k => zz50_l6 N k N p1 a2 was5 changed6 t16 t17 t18) h)
theorem zz50_step3 (N : Nat) (m : Nat) (kX : St → Option (Bool × (Y4 × Unit))) (kO : Nat → St → Option (Bool × (Y4 × Unit))) (p1 : Y4) (a2 : Y7) (was5 : Bool) (changed6 : Bool) : zz50_R3 N (m + 1) (zz50_E3 kX kO) p1 a2 was5 changed6 = zz50_b3 (zz50_R6 N N (zz50_K6 N m kX kO)) (zz50_X3 kX) p1 a2 was5 changed6 := by kernel_rfl
theorem zz50_iter3 (N : Nat) (kX : St → Option (Bool × (Y4 × Unit))) (kO : Nat → St → Option (Bool × (Y4 × Unit))) : ∀ (n : Nat) (p1 : Y4) (a2 : Y7) (was5 : Bool) (changed6 : Bool), zz50_R3 N n (zz50_E3 kX kO) p1 a2 was5 changed6 = zz50_l3 N (zz50_X3 kX) n p1 a2 was5 changed6
  | 0, _, _, _, _ => rfl
  | m + 1, p1, a2, was5, changed6 => by
    have hrec : zz50_R3 N m (zz50_E3 kX kO) = (zz50_l3 N (zz50_X3 kX) m) := (funext fun p1 => (funext fun a2 => (funext fun was5 => (funext fun changed6 => zz50_iter3 N kX kO m p1 a2 was5 changed6))))
    refine (zz50_step3 N m kX kO p1 a2 was5 changed6).trans ?_
    rw [(funext fun p1 => (funext fun a2 => (funext fun was5 => (funext fun changed6 => (funext fun t16 => (funext fun t17 => (funext fun t18 => zz50_in6 N m kX kO (zz50_l3 N (zz50_X3 kX) m) hrec p1 a2 was5 changed6 t16 t17 t18)))))))]
    rfl
noncomputable abbrev zz50_K3 (N : Nat) : Ex → St → Option (Bool × (Y4 × Unit)) := (blockK 0 (seqK ((A_zz50).shape 43) (run (A_zz50) N (codeAt Try.f100 [1, 1, 1])) zz50_z))
noncomputable abbrev zz50_k3 (N : Nat) : St → Option (Bool × (Y4 × Unit)) := fun st' => run (A_zz50) N (codeAt Try.f100 [1, 1, 1]) st' zz50_z
theorem zz50_after3 (N : Nat) (p1 : Y4) (was5 : Bool) : zz50_X3 (zz50_k3 N) p1 was5 = zz50_a3 p1 was5 := by kernel_rfl
theorem zz50_in3 (N : Nat) (p1 : Y4) (a2 : Y7) (was5 : Bool) (changed6 : Bool) : zz50_R3 N N (zz50_K3 N) p1 a2 was5 changed6 = zz50_F3 N p1 a2 was5 changed6 :=
  have h : zz50_X3 (zz50_k3 N) = (zz50_a3) := (funext fun p1 => (funext fun was5 => zz50_after3 N p1 was5))
  ((iter_ex (fun st => by kernel_rfl) (fun st => by kernel_rfl)).trans (zz50_iter3 N (zz50_k3 N) (fun j st => (zz50_K3 N) (.exit j) st) N p1 a2 was5 changed6)).trans (congrArg (fun k => zz50_l3 N k N p1 a2 was5 changed6) h)
theorem run0_zz50 (N : Nat) (x : (S_zz50).a.den) : runF (A_zz50) N Try.f100 S_zz50 x = (zz50_s (zz50_R3 N N (zz50_K3 N)) x.1 x.2.1) := by kernel_rfl
theorem run_zz50 (N : Nat) (x : (S_zz50).a.den) : runF (A_zz50) N Try.f100 S_zz50 x = zz50 N x.1 x.2.1 := by
  refine (run0_zz50 N x).trans ?_
  rw [(funext fun p1 => (funext fun a2 => (funext fun was5 => (funext fun changed6 => zz50_in3 N p1 a2 was5 changed6))))]
  rfl
theorem fn_zz50 : FnOk Try.prog 100 := ⟨_, Try.func100, by kernel_rfl, by kernel_rfl⟩
theorem good_zz50 : Gx.Good Try.prog 100 S_zz50 := good_of_run Try.func100 (of_decide_eq_true (by kernel_rfl)) fun x r h => ⟨A_zz50, big, mkCfg_ok tabOk, mkCfg_sigs (show SigsOk Try.prog [(140, S_zz49)] from ⟨⟨fn_zz49, good_zz49⟩, trivial⟩), (run_zz50 big x).trans h⟩

/-! zz51 -/
def zz51_s (a_0 : Y7) (p_1 : Y4) : Option (Bool × Unit) :=
  (zz47 big a_0.1 p_1).bind fun rq1 =>
  cond rq1.1
  ((zz48 p_1).bind fun rq2 =>
  (zz50 big a_0 rq2.1).bind fun rq3 =>
  some (!rq3.1, (())))
  (some (false, (())))
def zz51 (a_0 : Y7) (p_1 : Y4) : Option (Bool × Unit) := zz51_s a_0 p_1
def S_zz51 : Sig := { a := (.pair (.pair I (.pair (.sl (.pair I (.pair (.sl I) .unit))) .unit)) (.pair (.sl I) .unit)), md := [0, 0], mf := [], m := .unit, r := .bool, rf := .i, f := fun x => zz51 x.1 x.2.1 }
def A_zz51 : Cfg := mkCfg tab [(99, S_zz47), (101, S_zz48), (100, S_zz50)] []
theorem run_zz51 (N : Nat) (x : (S_zz51).a.den) : runF (A_zz51) N Try.f58 S_zz51 x = zz51 x.1 x.2.1 := by kernel_rfl
theorem fn_zz51 : FnOk Try.prog 58 := ⟨_, Try.func58, by kernel_rfl, by kernel_rfl⟩
theorem good_zz51 : Gx.Good Try.prog 58 S_zz51 := good_of_run Try.func58 (of_decide_eq_true (by kernel_rfl)) fun x r h => ⟨A_zz51, big, mkCfg_ok tabOk, mkCfg_sigs (show SigsOk Try.prog [(99, S_zz47), (101, S_zz48), (100, S_zz50)] from ⟨⟨fn_zz47, good_zz47⟩, ⟨fn_zz48, good_zz48⟩, ⟨fn_zz50, good_zz50⟩, trivial⟩), (run_zz51 big x).trans h⟩

/-! zz52 -/
def zz52_s (o_0 : Y5) (x_1 : Int) (y_2 : Int) : Option (Bool × Unit) :=
  cond (decide (x_1 ≠ y_2))
  ((atI o_0 x_1).bind fun xq1 =>
  (atI xq1 y_2).bind fun xq2 =>
  some (xq2, (())))
  (some (false, (())))
def zz52 (o_0 : Y5) (x_1 : Int) (y_2 : Int) : Option (Bool × Unit) := zz52_s o_0 x_1 y_2
def S_zz52 : Sig := { a := (.pair (.sl (.sl .bool)) (.pair I (.pair I .unit))), md := [0, 0, 0], mf := [], m := .unit, r := .bool, rf := .i, f := fun x => zz52 x.1 x.2.1 x.2.2.1 }
def A_zz52 : Cfg := mkCfg tab [] []
theorem run_zz52 (N : Nat) (x : (S_zz52).a.den) : runF (A_zz52) N Try.f152 S_zz52 x = zz52 x.1 x.2.1 x.2.2.1 := by kernel_rfl
theorem fn_zz52 : FnOk Try.prog 152 := ⟨_, Try.func152, by kernel_rfl, by kernel_rfl⟩
theorem good_zz52 : Gx.Good Try.prog 152 S_zz52 := good_of_run Try.func152 (of_decide_eq_true (by kernel_rfl)) fun x r h => ⟨A_zz52, big, mkCfg_ok tabOk, mkCfg_sigs (show SigsOk Try.prog [] from trivial), (run_zz52 big x).trans h⟩

/-! zz53 -/
def zz53_b4 (rec : Y5 → Int → Int → Int → Int → Option (Bool × Unit)) (k : Option (Bool × Unit)) (o0 : Y5) (x1 : Int) (y2 : Int) (t14 : Int) (t15 : Int) : Option (Bool × Unit) :=
  cond (decide (t15 < t14))
  ((zz52 o0 x1 t15).bind fun rq2 =>
  cond rq2.1
  ((zz52 o0 t15 y2).bind fun rq3 =>
  cond rq3.1
  (some (false, (())))
  (rec o0 x1 y2 t14 (IntKind.i64.wrap (t15 + (1 : Int)))))
  (rec o0 x1 y2 t14 (IntKind.i64.wrap (t15 + (1 : Int)))))
  (k)
def zz53_a4 : Option (Bool × Unit) :=
  some (true, (()))
def zz53_s (L4 : Y5 → Int → Int → Int → Int → Option (Bool × Unit)) (o_0 : Y5) (x_1 : Int) (y_2 : Int) : Option (Bool × Unit) :=
  (zz52 o_0 x_1 y_2).bind fun rq1 =>
  cond (!rq1.1)
  (some (false, (())))
  (L4 o_0 x_1 y_2 (o_0.length : Int) (0 : Int))
def zz53_l4 (N : Nat) (k : Option (Bool × Unit)) : Nat → Y5 → Int → Int → Int → Int → Option (Bool × Unit)
  | 0, _, _, _, _, _ => none
  | m + 1, o0, x1, y2, t14, t15 => zz53_b4 (zz53_l4 N k m) k o0 x1 y2 t14 t15
def zz53_F4 (N : Nat) (o0 : Y5) (x1 : Int) (y2 : Int) (t14 : Int) (t15 : Int) : Option (Bool × Unit) := zz53_l4 N (zz53_a4) N o0 x1 y2 t14 t15
def zz53 (N : Nat) (o_0 : Y5) (x_1 : Int) (y_2 : Int) : Option (Bool × Unit) := zz53_s (zz53_F4 N) o_0 x_1 y_2
def S_zz53 : Sig := { a := (.pair (.sl (.sl .bool)) (.pair I (.pair I .unit))), md := [0, 0, 0], mf := [], m := .unit, r := .bool, rf := .i, f := fun x => zz53 big x.1 x.2.1 x.2.2.1 }
def A_zz53 : Cfg := mkCfg tab [(152, S_zz52)] [(8, [.as (.sl (.sl .bool)) .i, .as I .i, .as I .i, .drop, .drop, .drop, .drop, .drop, .drop, .drop, .drop, .drop, .drop, .drop, .as I .i, .as I .i]), (19, [])]
noncomputable def zz53_R4 (N n : Nat) (K : Ex → St → Option (Bool × Unit)) (o0 : Y5) (x1 : Int) (y2 : Int) (t14 : Int) (t15 : Int) : Option (Bool × Unit) := iter ((A_zz53).shape 8) (run (A_zz53) N (codeAt Try.f136 [1, 1, 0, 1, 0, 0])) n ([.val (.sl (.sl .bool)) .i o0, .val I .i x1, .val I .i y2, .u, .u, .u, .u, .u, .u, .u, .u, .u, .u, .u, .val I .i t14, .val I .i t15] ++ List.replicate 13 .u) K
noncomputable abbrev zz53_z : Ex → St → Option (Bool × Unit) := finish (A_zz53) S_zz53 Try.f136.results.toList
noncomputable abbrev zz53_X4 (kX : St → Option (Bool × Unit)) : Option (Bool × Unit) := kX ([] ++ List.replicate 29 .u)
noncomputable abbrev zz53_E4 (kX : St → Option (Bool × Unit)) (kO : Nat → St → Option (Bool × Unit)) : Ex → St → Option (Bool × Unit) := exK zz53_z 0 ((A_zz53).shape 19) kX kO
theorem zz53_step4 (N : Nat) (m : Nat) (kX : St → Option (Bool × Unit)) (kO : Nat → St → Option (Bool × Unit)) (o0 : Y5) (x1 : Int) (y2 : Int) (t14 : Int) (t15 : Int) : zz53_R4 N (m + 1) (zz53_E4 kX kO) o0 x1 y2 t14 t15 = zz53_b4 (zz53_R4 N m (zz53_E4 kX kO)) (zz53_X4 kX) o0 x1 y2 t14 t15 := by kernel_rfl
theorem zz53_iter4 (N : Nat) (kX : St → Option (Bool × Unit)) (kO : Nat → St → Option (Bool × Unit)) : ∀ (n : Nat) (o0 : Y5) (x1 : Int) (y2 : Int) (t14 : Int) (t15 : Int), zz53_R4 N n (zz53_E4 kX kO) o0 x1 y2 t14 t15 = zz53_l4 N (zz53_X4 kX) n o0 x1 y2 t14 t15
  | 0, _, _, _, _, _ => rfl
  | m + 1, o0, x1, y2, t14, t15 => by
    have hrec : zz53_R4 N m (zz53_E4 kX kO) = (zz53_l4 N (zz53_X4 kX) m) := (funext fun o0 => (funext fun x1 => (funext fun y2 => (funext fun t14 => (funext fun t15 => zz53_iter4 N kX kO m o0 x1 y2 t14 t15)))))
    refine (zz53_step4 N m kX kO o0 x1 y2 t14 t15).trans ?_
    rw [hrec]
    rfl
noncomputable abbrev zz53_K4 (N : Nat) : Ex → St → Option (Bool × Unit) := (blockK 0 (seqK ((A_zz53).shape 19) (run (A_zz53) N (codeAt Try.f136 [1, 1, 1])) zz53_z))
noncomputable abbrev zz53_k4 (N : Nat) : St → Option (Bool × Unit) := fun st' => run (A_zz53) N (codeAt Try.f136 [1, 1, 1]) st' zz53_z
theorem zz53_after4 (N : Nat) : zz53_X4 (zz53_k4 N) = zz53_a4 := by kernel_rfl
theorem zz53_in4 (N : Nat) (o0 : Y5) (x1 : Int) (y2 : Int) (t14 : Int) (t15 : Int) : zz53_R4 N N (zz53_K4 N) o0 x1 y2 t14 t15 = zz53_F4 N o0 x1 y2 t14 t15 :=
  have h : zz53_X4 (zz53_k4 N) = (zz53_a4) := zz53_after4 N
  ((iter_ex (fun st => by kernel_rfl) (fun st => by kernel_rfl)).trans (zz53_iter4 N (zz53_k4 N) (fun j st => (zz53_K4 N) (.exit j) st) N o0 x1 y2 t14 t15)).trans (congrArg (fun k => zz53_l4 N k N o0 x1 y2 t14 t15) h)
theorem run0_zz53 (N : Nat) (x : (S_zz53).a.den) : runF (A_zz53) N Try.f136 S_zz53 x = (zz53_s (zz53_R4 N N (zz53_K4 N)) x.1 x.2.1 x.2.2.1) := by kernel_rfl
theorem run_zz53 (N : Nat) (x : (S_zz53).a.den) : runF (A_zz53) N Try.f136 S_zz53 x = zz53 N x.1 x.2.1 x.2.2.1 := by
  refine (run0_zz53 N x).trans ?_
  rw [(funext fun o0 => (funext fun x1 => (funext fun y2 => (funext fun t14 => (funext fun t15 => zz53_in4 N o0 x1 y2 t14 t15)))))]
  rfl
theorem fn_zz53 : FnOk Try.prog 136 := ⟨_, Try.func136, by kernel_rfl, by kernel_rfl⟩
theorem good_zz53 : Gx.Good Try.prog 136 S_zz53 := good_of_run Try.func136 (of_decide_eq_true (by kernel_rfl)) fun x r h => ⟨A_zz53, big, mkCfg_ok tabOk, mkCfg_sigs (show SigsOk Try.prog [(152, S_zz52)] from ⟨⟨fn_zz52, good_zz52⟩, trivial⟩), (run_zz53 big x).trans h⟩

/-! zz54 -/
def zz54_s (y_0 : Int) (p_1 : Y5) (p_2 : Int) : Option (Bool × Unit) :=
  (zz53 big p_1 y_0 p_2).bind fun rq1 =>
  some (rq1.1, (()))
def zz54 (y_0 : Int) (p_1 : Y5) (p_2 : Int) : Option (Bool × Unit) := zz54_s y_0 p_1 p_2
def S_zz54 : Sig := { a := (.pair I (.pair (.ptr (.sl (.sl .bool))) (.pair (.ptr I) .unit))), md := [0, 0, 0], mf := [], m := .unit, r := .bool, rf := .i, f := fun x => zz54 x.1 x.2.1 x.2.2.1 }
def A_zz54 : Cfg := mkCfg tab [(136, S_zz53)] []
theorem run_zz54 (N : Nat) (x : (S_zz54).a.den) : runF (A_zz54) N Try.f135 S_zz54 x = zz54 x.1 x.2.1 x.2.2.1 := by kernel_rfl
theorem fn_zz54 : FnOk Try.prog 135 := ⟨_, Try.func135, by kernel_rfl, by kernel_rfl⟩
theorem good_zz54 : Gx.Good Try.prog 135 S_zz54 := good_of_run Try.func135 (of_decide_eq_true (by kernel_rfl)) fun x r h => ⟨A_zz54, big, mkCfg_ok tabOk, mkCfg_sigs (show SigsOk Try.prog [(136, S_zz53)] from ⟨⟨fn_zz53, good_zz53⟩, trivial⟩), (run_zz54 big x).trans h⟩

/-! zz55 -/
def zz55_b3 (rec : (Y5 × (Int × Unit)) → Y4 → Int → Int → Option (Y4 × Unit)) (k : Y4 → Option (Y4 × Unit)) (so1 : (Y5 × (Int × Unit))) (list5 : Y4) (t9 : Int) (t10 : Int) : Option (Y4 × Unit) :=
  cond (decide (t10 < t9))
  ((zz54 t10 so1.1 so1.2.1).bind fun rq1 =>
  cond rq1.1
  ((appI list5 [t10]).bind fun xq2 =>
  rec so1 xq2 t9 (IntKind.i64.wrap (t10 + (1 : Int))))
  (rec so1 list5 t9 (IntKind.i64.wrap (t10 + (1 : Int)))))
  (k list5)
def zz55_a3 (list5 : Y4) : Option (Y4 × Unit) :=
  some (list5, (()))
def zz55_s (L3 : (Y5 × (Int × Unit)) → Y4 → Int → Int → Option (Y4 × Unit)) (o_0 : Y5) (so_1 : (Y5 × (Int × Unit))) : Option (Y4 × Unit) :=
  L3 so_1 [] (o_0.length : Int) (0 : Int)
def zz55_l3 (N : Nat) (k : Y4 → Option (Y4 × Unit)) : Nat → (Y5 × (Int × Unit)) → Y4 → Int → Int → Option (Y4 × Unit)
  | 0, _, _, _, _ => none
  | m + 1, so1, list5, t9, t10 => zz55_b3 (zz55_l3 N k m) k so1 list5 t9 t10
def zz55_F3 (N : Nat) (so1 : (Y5 × (Int × Unit))) (list5 : Y4) (t9 : Int) (t10 : Int) : Option (Y4 × Unit) := zz55_l3 N (zz55_a3) N so1 list5 t9 t10
def zz55 (N : Nat) (o_0 : Y5) (so_1 : (Y5 × (Int × Unit))) : Option (Y4 × Unit) := zz55_s (zz55_F3 N) o_0 so_1
def S_zz55 : Sig := { a := (.pair (.sl (.sl .bool)) (.pair (.clo 135 0 (.pair (.ptr (.sl (.sl .bool))) (.pair (.ptr I) .unit))) .unit)), md := [0, 0], mf := [], m := .unit, r := (.sl I), rf := (.o .i), f := fun x => zz55 big x.1 x.2.1 }
def A_zz55 : Cfg := mkCfg tab [(135, S_zz54)] [(6, [.drop, .as (.clo 135 0 (.pair (.ptr (.sl (.sl .bool))) (.pair (.ptr I) .unit))) .i, .drop, .drop, .drop, .as (.sl I) (.o .i), .drop, .drop, .drop, .as I .i, .as I .i]), (17, [.drop, .drop, .drop, .drop, .drop, .as (.sl I) (.o .i)])]
noncomputable def zz55_R3 (N n : Nat) (K : Ex → St → Option (Y4 × Unit)) (so1 : (Y5 × (Int × Unit))) (list5 : Y4) (t9 : Int) (t10 : Int) : Option (Y4 × Unit) := iter ((A_zz55).shape 6) (run (A_zz55) N (codeAt Try.f104 [1, 1, 0, 1, 0, 0])) n ([.u, .val (.clo 135 0 (.pair (.ptr (.sl (.sl .bool))) (.pair (.ptr I) .unit))) .i so1, .u, .u, .u, .val (.sl I) (.o .i) list5, .u, .u, .u, .val I .i t9, .val I .i t10] ++ List.replicate 11 .u) K
noncomputable abbrev zz55_z : Ex → St → Option (Y4 × Unit) := finish (A_zz55) S_zz55 Try.f104.results.toList
noncomputable abbrev zz55_X3 (kX : St → Option (Y4 × Unit)) : Y4 → Option (Y4 × Unit) := fun (list5 : Y4) => kX ([.u, .u, .u, .u, .u, .val (.sl I) (.o .i) list5] ++ List.replicate 16 .u)
noncomputable abbrev zz55_E3 (kX : St → Option (Y4 × Unit)) (kO : Nat → St → Option (Y4 × Unit)) : Ex → St → Option (Y4 × Unit) := exK zz55_z 0 ((A_zz55).shape 17) kX kO
theorem zz55_step3 (N : Nat) (m : Nat) (kX : St → Option (Y4 × Unit)) (kO : Nat → St → Option (Y4 × Unit)) (so1 : (Y5 × (Int × Unit))) (list5 : Y4) (t9 : Int) (t10 : Int) : zz55_R3 N (m + 1) (zz55_E3 kX kO) so1 list5 t9 t10 = zz55_b3 (zz55_R3 N m (zz55_E3 kX kO)) (zz55_X3 kX) so1 list5 t9 t10 := by kernel_rfl
theorem zz55_iter3 (N : Nat) (kX : St → Option (Y4 × Unit)) (kO : Nat → St → Option (Y4 × Unit)) : ∀ (n : Nat) (so1 : (Y5 × (Int × Unit))) (list5 : Y4) (t9 : Int) (t10 : Int), zz55_R3 N n (zz55_E3 kX kO) so1 list5 t9 t10 = zz55_l3 N (zz55_X3 kX) n so1 list5 t9 t10
  | 0, _, _, _, _ => rfl
  | m + 1, so1, list5, t9, t10 => by
    have hrec : zz55_R3 N m (zz55_E3 kX kO) = (zz55_l3 N (zz55_X3 kX) m) := (funext fun so1 => (funext fun list5 => (funext fun t9 => (funext fun t10 => zz55_iter3 N kX kO m so1 list5 t9 t10))))
    refine (zz55_step3 N m kX kO so1 list5 t9 t10).trans ?_
    rw [hrec]
    rfl
noncomputable abbrev zz55_K3 (N : Nat) : Ex → St → Option (Y4 × Unit) := (blockK 0 (seqK ((A_zz55).shape 17) (run (A_zz55) N (codeAt Try.f104 [1, 1, 1])) zz55_z))
noncomputable abbrev zz55_k3 (N : Nat) : St → Option (Y4 × Unit) := fun st' => run (A_zz55) N (codeAt Try.f104 [1, 1, 1]) st' zz55_z
theorem zz55_after3 (N : Nat) (list5 : Y4) : zz55_X3 (zz55_k3 N) list5 = zz55_a3 list5 := by kernel_rfl
theorem zz55_in3 (N : Nat) (so1 : (Y5 × (Int × Unit))) (list5 : Y4) (t9 : Int) (t10 : Int) : zz55_R3 N N (zz55_K3 N) so1 list5 t9 t10 = zz55_F3 N so1 list5 t9 t10 :=
  have h : zz55_X3 (zz55_k3 N) = (zz55_a3) := (funext fun list5 => zz55_after3 N list5)
  ((iter_ex (fun st => by kernel_rfl) (fun st => by kernel_rfl)).trans (zz55_iter3 N (zz55_k3 N) (fun j st => (zz55_K3 N) (.exit j) st) N so1 list5 t9 t10)).trans (congrArg (fun k => zz55_l3 N k N so1 list5 t9 t10) h)
theorem run0_zz55 (N : Nat) (x : (S_zz55).a.den) : runF (A_zz55) N Try.f104 S_zz55 x = (zz55_s (zz55_R3 N N (zz55_K3 N)) x.1 x.2.1) := by kernel_rfl
theorem run_zz55 (N : Nat) (x : (S_zz55).a.den) : runF (A_zz55) N Try.f104 S_zz55 x = zz55 N x.1 x.2.1 := by
  refine (run0_zz55 N x).trans ?_
  rw [(funext fun so1 => (funext fun list5 => (funext fun t9 => (funext fun t10 => zz55_in3 N so1 list5 t9 t10))))]
  rfl
theorem fn_zz55 : FnOk Try.prog 104 := ⟨_, Try.func104, by kernel_rfl, by kernel_rfl⟩
theorem good_zz55 : Gx.Good Try.prog 104 S_zz55 := good_of_run Try.func104 (of_decide_eq_true (by kernel_rfl)) fun x r h => ⟨A_zz55, big, mkCfg_ok tabOk, mkCfg_sigs (show SigsOk Try.prog [(135, S_zz54)] from ⟨⟨fn_zz54, good_zz54⟩, trivial⟩), (run_zz55 big x).trans h⟩

/-! zz56 -/
def zz56_s (o_0 : Y5) (x_1 : Int) : Option (Y4 × Unit) :=
  (zz55 big o_0 (o_0, x_1, ())).bind fun rq1 =>
  some (rq1.1, (()))
def zz56 (o_0 : Y5) (x_1 : Int) : Option (Y4 × Unit) := zz56_s o_0 x_1
def S_zz56 : Sig := { a := (.pair (.sl (.sl .bool)) (.pair I .unit)), md := [0, 0], mf := [], m := .unit, r := (.sl I), rf := (.o .i), f := fun x => zz56 x.1 x.2.1 }
def A_zz56 : Cfg := mkCfg tab [(104, S_zz55)] [(3, [.drop, .drop, .as (.ptr (.sl (.sl .bool))) .i, .as (.ptr I) .i])]
theorem run_zz56 (N : Nat) (x : (S_zz56).a.den) : runF (A_zz56) N Try.f93 S_zz56 x = zz56 x.1 x.2.1 := by kernel_rfl
theorem fn_zz56 : FnOk Try.prog 93 := ⟨_, Try.func93, by kernel_rfl, by kernel_rfl⟩
theorem good_zz56 : Gx.Good Try.prog 93 S_zz56 := good_of_run Try.func93 (of_decide_eq_true (by kernel_rfl)) fun x r h => ⟨A_zz56, big, mkCfg_ok tabOk, mkCfg_sigs (show SigsOk Try.prog [(104, S_zz55)] from ⟨⟨fn_zz55, good_zz55⟩, trivial⟩), (run_zz56 big x).trans h⟩

/-! zz57 -/
def zz57_s (x_0 : Int) (p_1 : Y1) : Option (Bool × Unit) :=
  (p_1).bind fun xq1 =>
  (zz56 xq1.1 x_0).bind fun rq2 =>
  some (decide ((rq2.1.length : Int) = (1 : Int)), (()))
def zz57 (x_0 : Int) (p_1 : Y1) : Option (Bool × Unit) := zz57_s x_0 p_1
def S_zz57 : Sig := { a := (.pair I (.pair (.ptr (.opt (.pair (.sl (.sl .bool)) (.pair (.sl (.sl I)) (.pair (.sl (.sl I)) .unit))))) .unit)), md := [0, 0], mf := [], m := .unit, r := .bool, rf := .i, f := fun x => zz57 x.1 x.2.1 }
def A_zz57 : Cfg := mkCfg tab [(93, S_zz56)] []
theorem run_zz57 (N : Nat) (x : (S_zz57).a.den) : runF (A_zz57) N Try.f105 S_zz57 x = zz57 x.1 x.2.1 := by kernel_rfl
theorem fn_zz57 : FnOk Try.prog 105 := ⟨_, Try.func105, by kernel_rfl, by kernel_rfl⟩
theorem good_zz57 : Gx.Good Try.prog 105 S_zz57 := good_of_run Try.func105 (of_decide_eq_true (by kernel_rfl)) fun x r h => ⟨A_zz57, big, mkCfg_ok tabOk, mkCfg_sigs (show SigsOk Try.prog [(93, S_zz56)] from ⟨⟨fn_zz56, good_zz56⟩, trivial⟩), (run_zz57 big x).trans h⟩

/-! zz58 -/
def zz58_b3 (rec : (Y1 × Unit) → Y4 → Int → Int → Option (Y4 × Unit)) (k : Y4 → Option (Y4 × Unit)) (so1 : (Y1 × Unit)) (list5 : Y4) (t9 : Int) (t10 : Int) : Option (Y4 × Unit) :=
  cond (decide (t10 < t9))
  ((zz57 t10 so1.1).bind fun rq1 =>
  cond rq1.1
  ((appI list5 [t10]).bind fun xq2 =>
  rec so1 xq2 t9 (IntKind.i64.wrap (t10 + (1 : Int))))
  (rec so1 list5 t9 (IntKind.i64.wrap (t10 + (1 : Int)))))
  (k list5)
def zz58_a3 (list5 : Y4) : Option (Y4 × Unit) :=
  some (list5, (()))
def zz58_s (L3 : (Y1 × Unit) → Y4 → Int → Int → Option (Y4 × Unit)) (o_0 : Y5) (so_1 : (Y1 × Unit)) : Option (Y4 × Unit) :=
  L3 so_1 [] (o_0.length : Int) (0 : Int)
def zz58_l3 (N : Nat) (k : Y4 → Option (Y4 × Unit)) : Nat → (Y1 × Unit) → Y4 → Int → Int → Option (Y4 × Unit)
  | 0, _, _, _, _ => none
  | m + 1, so1, list5, t9, t10 => zz58_b3 (zz58_l3 N k m) k so1 list5 t9 t10
def zz58_F3 (N : Nat) (so1 : (Y1 × Unit)) (list5 : Y4) (t9 : Int) (t10 : Int) : Option (Y4 × Unit) := zz58_l3 N (zz58_a3) N so1 list5 t9 t10
def zz58 (N : Nat) (o_0 : Y5) (so_1 : (Y1 × Unit)) : Option (Y4 × Unit) := zz58_s (zz58_F3 N) o_0 so_1
def S_zz58 : Sig := { a := (.pair (.sl (.sl .bool)) (.pair (.clo 105 0 (.pair (.ptr (.opt (.pair (.sl (.sl .bool)) (.pair (.sl (.sl I)) (.pair (.sl (.sl I)) .unit))))) .unit)) .unit)), md := [0, 0], mf := [], m := .unit, r := (.sl I), rf := (.o .i), f := fun x => zz58 big x.1 x.2.1 }
def A_zz58 : Cfg := mkCfg tab [(105, S_zz57)] [(6, [.drop, .as (.clo 105 0 (.pair (.ptr (.opt (.pair (.sl (.sl .bool)) (.pair (.sl (.sl I)) (.pair (.sl (.sl I)) .unit))))) .unit)) .i, .drop, .drop, .drop, .as (.sl I) (.o .i), .drop, .drop, .drop, .as I .i, .as I .i]), (17, [.drop, .drop, .drop, .drop, .drop, .as (.sl I) (.o .i)])]
noncomputable def zz58_R3 (N n : Nat) (K : Ex → St → Option (Y4 × Unit)) (so1 : (Y1 × Unit)) (list5 : Y4) (t9 : Int) (t10 : Int) : Option (Y4 × Unit) := iter ((A_zz58).shape 6) (run (A_zz58) N (codeAt Try.f104 [1, 1, 0, 1, 0, 0])) n ([.u, .val (.clo 105 0 (.pair (.ptr (.opt (.pair (.sl (.sl .bool)) (.pair (.sl (.sl I)) (.pair (.sl (.sl I)) .unit))))) .unit)) .i so1, .u, .u, .u, .val (.sl I) (.o .i) list5, .u, .u, .u, .val I .i t9, .val I .i t10] ++ List.replicate 11 .u) K
noncomputable abbrev zz58_z : Ex → St → Option (Y4 × Unit) := finish (A_zz58) S_zz58 Try.f104.results.toList
noncomputable abbrev zz58_X3 (kX : St → Option (Y4 × Unit)) : Y4 → Option (Y4 × Unit) := fun (list5 : Y4) => kX ([.u, .u, .u, .u, .u, .val (.sl I) (.o .i) list5] ++ List.replicate 16 .u)
noncomputable abbrev zz58_E3 (kX : St → Option (Y4 × Unit)) (kO : Nat → St → Option (Y4 × Unit)) : Ex → St → Option (Y4 × Unit) := exK zz58_z 0 ((A_zz58).shape 17) kX kO
theorem zz58_step3 (N : Nat) (m : Nat) (kX : St → Option (Y4 × Unit)) (kO : Nat → St → Option (Y4 × Unit)) (so1 : (Y1 × Unit)) (list5 : Y4) (t9 : Int) (t10 : Int) : zz58_R3 N (m + 1) (zz58_E3 kX kO) so1 list5 t9 t10 = zz58_b3 (zz58_R3 N m (zz58_E3 kX kO)) (zz58_X3 kX) so1 list5 t9 t10 := by kernel_rfl
theorem zz58_iter3 (N : Nat) (kX : St → Option (Y4 × Unit)) (kO : Nat → St → Option (Y4 × Unit)) : ∀ (n : Nat) (so1 : (Y1 × Unit)) (list5 : Y4) (t9 : Int) (t10 : Int), zz58_R3 N n (zz58_E3 kX kO) so1 list5 t9 t10 = zz58_l3 N (zz58_X3 kX) n so1 list5 t9 t10
  | 0, _, _, _, _ => rfl
  | m + 1, so1, list5, t9, t10 => by
    have hrec : zz58_R3 N m (zz58_E3 kX kO) = (zz58_l3 N (zz58_X3 kX) m) := (funext fun so1 => (funext fun list5 => (funext fun t9 => (funext fun t10 => zz58_iter3 N kX kO m so1 list5 t9 t10))))
    refine (zz58_step3 N m kX kO so1 list5 t9 t10).trans ?_
    rw [hrec]
    rfl
noncomputable abbrev zz58_K3 (N : Nat) : Ex → St → Option (Y4 × Unit) := (blockK 0 (seqK ((A_zz58).shape 17) (run (A_zz58) N (codeAt Try.f104 [1, 1, 1])) zz58_z))
noncomputable abbrev zz58_k3 (N : Nat) : St → Option (Y4 × Unit) := fun st' => run (A_zz58) N (codeAt Try.f104 [1, 1, 1]) st' zz58_z
theorem zz58_after3 (N : Nat) (list5 : Y4) : zz58_X3 (zz58_k3 N) list5 = zz58_a3 list5 := by kernel_rfl
theorem zz58_in3 (N : Nat) (so1 : (Y1 × Unit)) (list5 : Y4) (t9 : Int) (t10 : Int) : zz58_R3 N N (zz58_K3 N) so1 list5 t9 t10 = zz58_F3 N so1 list5 t9 t10 :=
  have h : zz58_X3 (zz58_k3 N) = (zz58_a3) := (funext fun list5 => zz58_after3 N list5)
  ((iter_ex (fun st => by kernel_rfl) (fun st => by kernel_rfl)).trans (zz58_iter3 N (zz58_k3 N) (fun j st => (zz58_K3 N) (.exit j) st) N so1 list5 t9 t10)).trans (congrArg (fun k => zz58_l3 N k N so1 list5 t9 t10) h)
theorem run0_zz58 (N : Nat) (x : (S_zz58).a.den) : runF (A_zz58) N Try.f104 S_zz58 x = (zz58_s (zz58_R3 N N (zz58_K3 N)) x.1 x.2.1) := by kernel_rfl
theorem run_zz58 (N : Nat) (x : (S_zz58).a.den) : runF (A_zz58) N Try.f104 S_zz58 x = zz58 N x.1 x.2.1 := by
  refine (run0_zz58 N x).trans ?_
  rw [(funext fun so1 => (funext fun list5 => (funext fun t9 => (funext fun t10 => zz58_in3 N so1 list5 t9 t10))))]
  rfl
theorem fn_zz58 : FnOk Try.prog 104 := ⟨_, Try.func104, by kernel_rfl, by kernel_rfl⟩
theorem good_zz58 : Gx.Good Try.prog 104 S_zz58 := good_of_run Try.func104 (of_decide_eq_true (by kernel_rfl)) fun x r h => ⟨A_zz58, big, mkCfg_ok tabOk, mkCfg_sigs (show SigsOk Try.prog [(105, S_zz57)] from ⟨⟨fn_zz57, good_zz57⟩, trivial⟩), (run_zz58 big x).trans h⟩

/-! zz59 -/
def zz59_s (l_0 : Y1) : Option (Y4 × Unit) :=
  (l_0).bind fun xq1 =>
  (zz58 big xq1.1 (l_0, ())).bind fun rq2 =>
  some (rq2.1, (()))
def zz59 (l_0 : Y1) : Option (Y4 × Unit) := zz59_s l_0
def S_zz59 : Sig := { a := (.pair (.opt (.pair (.sl (.sl .bool)) (.pair (.sl (.sl I)) (.pair (.sl (.sl I)) .unit)))) .unit), md := [0], mf := [], m := .unit, r := (.sl I), rf := (.o .i), f := fun x => zz59 x.1 }
def A_zz59 : Cfg := mkCfg tab [(104, S_zz58)] [(3, [.drop, .as (.ptr (.opt (.pair (.sl (.sl .bool)) (.pair (.sl (.sl I)) (.pair (.sl (.sl I)) .unit))))) .i])]
theorem run_zz59 (N : Nat) (x : (S_zz59).a.den) : runF (A_zz59) N Try.f62 S_zz59 x = zz59 x.1 := by kernel_rfl
theorem fn_zz59 : FnOk Try.prog 62 := ⟨_, Try.func62, by kernel_rfl, by kernel_rfl⟩
theorem good_zz59 : Gx.Good Try.prog 62 S_zz59 := good_of_run Try.func62 (of_decide_eq_true (by kernel_rfl)) fun x r h => ⟨A_zz59, big, mkCfg_ok tabOk, mkCfg_sigs (show SigsOk Try.prog [(104, S_zz58)] from ⟨⟨fn_zz58, good_zz58⟩, trivial⟩), (run_zz59 big x).trans h⟩

/-! zz60 -/
def zz60_s (l_0 : Y1) (j_1 : Int) : Option (Int × Unit) :=
  (l_0).bind fun xq1 =>
  (zz56 xq1.1 j_1).bind fun rq2 =>
  (atI rq2.1 (0 : Int)).bind fun _ =>
  (rq2.1[(0 : Int).toNat]?).bind fun xq3 =>
  some (xq3, (()))
def zz60 (l_0 : Y1) (j_1 : Int) : Option (Int × Unit) := zz60_s l_0 j_1
def S_zz60 : Sig := { a := (.pair (.opt (.pair (.sl (.sl .bool)) (.pair (.sl (.sl I)) (.pair (.sl (.sl I)) .unit)))) (.pair I .unit)), md := [0, 0], mf := [], m := .unit, r := I, rf := .i, f := fun x => zz60 x.1 x.2.1 }
def A_zz60 : Cfg := mkCfg tab [(93, S_zz56)] []
theorem run_zz60 (N : Nat) (x : (S_zz60).a.den) : runF (A_zz60) N Try.f102 S_zz60 x = zz60 x.1 x.2.1 := by kernel_rfl
theorem fn_zz60 : FnOk Try.prog 102 := ⟨_, Try.func102, by kernel_rfl, by kernel_rfl⟩
theorem good_zz60 : Gx.Good Try.prog 102 S_zz60 := good_of_run Try.func102 (of_decide_eq_true (by kernel_rfl)) fun x r h => ⟨A_zz60, big, mkCfg_ok tabOk, mkCfg_sigs (show SigsOk Try.prog [(93, S_zz56)] from ⟨⟨fn_zz56, good_zz56⟩, trivial⟩), (run_zz60 big x).trans h⟩

/-! zz61 -/
def zz61_b3 (rec : Y1 → Y4 → Y4 → Y4 → Int → Int → Option (Y4 × Unit)) (k : Y4 → Option (Y4 × Unit)) (l0 : Y1) (c1 : Y4) (list5 : Y4) (t10 : Y4) (t11 : Int) (t12 : Int) : Option (Y4 × Unit) :=
  cond (decide (t12 < t11))
  ((atI t10 t12).bind fun _ =>
  (t10[t12.toNat]?).bind fun xq2 =>
  (atI c1 xq2).bind fun xq3 =>
  (zz60 l0 xq2).bind fun rq4 =>
  (atI c1 rq4.1).bind fun xq5 =>
  cond (decide (xq3 = xq5))
  ((appI list5 [xq2]).bind fun xq6 =>
  rec l0 c1 xq6 t10 t11 (IntKind.i64.wrap (t12 + (1 : Int))))
  (rec l0 c1 list5 t10 t11 (IntKind.i64.wrap (t12 + (1 : Int)))))
  (k list5)
def zz61_a3 (list5 : Y4) : Option (Y4 × Unit) :=
  some (list5, (()))
def zz61_s (L3 : Y1 → Y4 → Y4 → Y4 → Int → Int → Option (Y4 × Unit)) (l_0 : Y1) (c_1 : Y4) : Option (Y4 × Unit) :=
  (zz59 l_0).bind fun rq1 =>
  L3 l_0 c_1 [] rq1.1 (rq1.1.length : Int) (0 : Int)
def zz61_l3 (N : Nat) (k : Y4 → Option (Y4 × Unit)) : Nat → Y1 → Y4 → Y4 → Y4 → Int → Int → Option (Y4 × Unit)
  | 0, _, _, _, _, _, _ => none
  | m + 1, l0, c1, list5, t10, t11, t12 => zz61_b3 (zz61_l3 N k m) k l0 c1 list5 t10 t11 t12
def zz61_F3 (N : Nat) (l0 : Y1) (c1 : Y4) (list5 : Y4) (t10 : Y4) (t11 : Int) (t12 : Int) : Option (Y4 × Unit) := zz61_l3 N (zz61_a3) N l0 c1 list5 t10 t11 t12
def zz61 (N : Nat) (l_0 : Y1) (c_1 : Y4) : Option (Y4 × Unit) := zz61_s (zz61_F3 N) l_0 c_1
def S_zz61 : Sig := { a := (.pair (.opt (.pair (.sl (.sl .bool)) (.pair (.sl (.sl I)) (.pair (.sl (.sl I)) .unit)))) (.pair (.sl I) .unit)), md := [0, 0], mf := [], m := .unit, r := (.sl I), rf := (.o .i), f := fun x => zz61 big x.1 x.2.1 }
def A_zz61 : Cfg := mkCfg tab [(62, S_zz59), (102, S_zz60)] [(6, [.as (.opt (.pair (.sl (.sl .bool)) (.pair (.sl (.sl I)) (.pair (.sl (.sl I)) .unit)))) .i, .as (.sl I) .i, .drop, .drop, .drop, .as (.sl I) (.o .i), .drop, .drop, .drop, .drop, .as (.sl I) (.o .i), .as I .i, .as I .i]), (17, [.drop, .drop, .drop, .drop, .drop, .as (.sl I) (.o .i)])]
noncomputable def zz61_R3 (N n : Nat) (K : Ex → St → Option (Y4 × Unit)) (l0 : Y1) (c1 : Y4) (list5 : Y4) (t10 : Y4) (t11 : Int) (t12 : Int) : Option (Y4 × Unit) := iter ((A_zz61).shape 6) (run (A_zz61) N (codeAt Try.f60 [1, 1, 0, 1, 0, 0])) n ([.val (.opt (.pair (.sl (.sl .bool)) (.pair (.sl (.sl I)) (.pair (.sl (.sl I)) .unit)))) .i l0, .val (.sl I) .i c1, .u, .u, .u, .val (.sl I) (.o .i) list5, .u, .u, .u, .u, .val (.sl I) (.o .i) t10, .val I .i t11, .val I .i t12] ++ List.replicate 20 .u) K
noncomputable abbrev zz61_z : Ex → St → Option (Y4 × Unit) := finish (A_zz61) S_zz61 Try.f60.results.toList
noncomputable abbrev zz61_X3 (kX : St → Option (Y4 × Unit)) : Y4 → Option (Y4 × Unit) := fun (list5 : Y4) => kX ([.u, .u, .u, .u, .u, .val (.sl I) (.o .i) list5] ++ List.replicate 27 .u)
noncomputable abbrev zz61_E3 (kX : St → Option (Y4 × Unit)) (kO : Nat → St → Option (Y4 × Unit)) : Ex → St → Option (Y4 × Unit) := exK zz61_z 0 ((A_zz61).shape 17) kX kO
theorem zz61_step3 (N : Nat) (m : Nat) (kX : St → Option (Y4 × Unit)) (kO : Nat → St → Option (Y4 × Unit)) (l0 : Y1) (c1 : Y4) (list5 : Y4) (t10 : Y4) (t11 : Int) (t12 : Int) : zz61_R3 N (m + 1) (zz61_E3 kX kO) l0 c1 list5 t10 t11 t12 = zz61_b3 (zz61_R3 N m (zz61_E3 kX kO)) (zz61_X3 kX) l0 c1 list5 t10 t11 t12 := by kernel_rfl
theorem zz61_iter3 (N : Nat) (kX : St → Option (Y4 × Unit)) (kO : Nat → St → Option (Y4 × Unit)) : ∀ (n : Nat) (l0 : Y1) (c1 : Y4) (list5 : Y4) (t10 : Y4) (t11 : Int) (t12 : Int), zz61_R3 N n (zz61_E3 kX kO) l0 c1 list5 t10 t11 t12 = zz61_l3 N (zz61_X3 kX) n l0 c1 list5 t10 t11 t12
  | 0, _, _, _, _, _, _ => rfl
  | m + 1, l0, c1, list5, t10, t11, t12 => by
    have hrec : zz61_R3 N m (zz61_E3 kX kO) = (zz61_l3 N (zz61_X3 kX) m) := (funext fun l0 => (funext fun c1 => (funext fun list5 => (funext fun t10 => (funext fun t11 => (funext fun t12 => zz61_iter3 N kX kO m l0 c1 list5 t10 t11 t12))))))
    refine (zz61_step3 N m kX kO l0 c1 list5 t10 t11 t12).trans ?_
    rw [hrec]
    rfl
noncomputable abbrev zz61_K3 (N : Nat) : Ex → St → Option (Y4 × Unit) := (blockK 0 (seqK ((A_zz61).shape 17) (run (A_zz61) N (codeAt Try.f60 [1, 1, 1])) zz61_z))
noncomputable abbrev zz61_k3 (N : Nat) : St → Option (Y4 × Unit) := fun st' => run (A_zz61) N (codeAt Try.f60 [1, 1, 1]) st' zz61_z
theorem zz61_after3 (N : Nat) (list5 : Y4) : zz61_X3 (zz61_k3 N) list5 = zz61_a3 list5 := by kernel_rfl
theorem zz61_in3 (N : Nat) (l0 : Y1) (c1 : Y4) (list5 : Y4) (t10 : Y4) (t11 : Int) (t12 : Int) : zz61_R3 N N (zz61_K3 N) l0 c1 list5 t10 t11 t12 = zz61_F3 N l0 c1 list5 t10 t11 t12 :=
  have h : zz61_X3 (zz61_k3 N) = (zz61_a3) := (funext fun list5 => zz61_after3 N list5)
  ((iter_ex (fun st => by kernel_rfl) (fun st => by kernel_rfl)).trans (zz61_iter3 N (zz61_k3 N) (fun j st => (zz61_K3 N) (.exit j) st) N l0 c1 list5 t10 t11 t12)).trans (congrArg (fun k => zz61_l3 N k N l0 c1 list5 t10 t11 t12) h)
theorem run0_zz61 (N : Nat) (x : (S_zz61).a.den) : runF (A_zz61) N Try.f60 S_zz61 x = (zz61_s (zz61_R3 N N (zz61_K3 N)) x.1 x.2.1) := by kernel_rfl
theorem run_zz61 (N : Nat) (x : (S_zz61).a.den) : runF (A_zz61) N Try.f60 S_zz61 x = zz61 N x.1 x.2.1 := by
  refine (run0_zz61 N x).trans ?_
  rw [(funext fun l0 => (funext fun c1 => (funext fun list5 => (funext fun t10 => (funext fun t11 => (funext fun t12 => zz61_in3 N l0 c1 list5 t10 t11 t12))))))]
  rfl
theorem fn_zz61 : FnOk Try.prog 60 := ⟨_, Try.func60, by kernel_rfl, by kernel_rfl⟩
theorem good_zz61 : Gx.Good Try.prog 60 S_zz61 := good_of_run Try.func60 (of_decide_eq_true (by kernel_rfl)) fun x r h => ⟨A_zz61, big, mkCfg_ok tabOk, mkCfg_sigs (show SigsOk Try.prog [(62, S_zz59), (102, S_zz60)] from ⟨⟨fn_zz59, good_zz59⟩, ⟨fn_zz60, good_zz60⟩, trivial⟩), (run_zz61 big x).trans h⟩

/-! zz62 -/
def zz62_s (p_0 : Y2) (c_1 : Y4) : Option ((Y4 × (Bool × Unit)) × Unit) :=
  (zz44 p_0).bind fun rq1 =>
  cond (!rq1.1.2.1)
  (some (([], false, ()), (())))
  ((zz46 rq1.1.1).bind fun rq2 =>
  (zz51 rq2.1 c_1).bind fun rq3 =>
  cond (!rq3.1)
  (some (([], false, ()), (())))
  ((zz61 big rq1.1.1 c_1).bind fun rq4 =>
  some ((rq4.1, true, ()), (()))))
def zz62 (p_0 : Y2) (c_1 : Y4) : Option ((Y4 × (Bool × Unit)) × Unit) := zz62_s p_0 c_1
def S_zz62 : Sig := { a := (.pair (.pair (.sl (.sl I)) .unit) (.pair (.sl I) .unit)), md := [0, 0], mf := [], m := .unit, r := (.tup (.pair (.sl I) (.pair .bool .unit))), rf := (.p (.o .i) .i), f := fun x => zz62 x.1 x.2.1 }
def A_zz62 : Cfg := mkCfg tab [(51, S_zz44), (59, S_zz46), (58, S_zz51), (60, S_zz61)] []
theorem run_zz62 (N : Nat) (x : (S_zz62).a.den) : runF (A_zz62) N Try.f22 S_zz62 x = zz62 x.1 x.2.1 := by kernel_rfl
theorem fn_zz62 : FnOk Try.prog 22 := ⟨_, Try.func22, by kernel_rfl, by kernel_rfl⟩
theorem good_zz62 : Gx.Good Try.prog 22 S_zz62 := good_of_run Try.func22 (of_decide_eq_true (by kernel_rfl)) fun x r h => ⟨A_zz62, big, mkCfg_ok tabOk, mkCfg_sigs (show SigsOk Try.prog [(51, S_zz44), (59, S_zz46), (58, S_zz51), (60, S_zz61)] from ⟨⟨fn_zz44, good_zz44⟩, ⟨fn_zz46, good_zz46⟩, ⟨fn_zz51, good_zz51⟩, ⟨fn_zz61, good_zz61⟩, trivial⟩), (run_zz62 big x).trans h⟩

/-! zz63 -/
def zz63_b4 (rec : Y4 → Y4 → Int → Option (Bool × Unit)) (k : Option (Bool × Unit)) (a0 : Y4) (b1 : Y4) (i5 : Int) : Option (Bool × Unit) :=
  cond (decide (i5 < (a0.length : Int)))
  ((atI a0 i5).bind fun xq1 =>
  (atI b1 i5).bind fun xq2 =>
  cond (decide (xq1 ≠ xq2))
  (some (false, (())))
  (rec a0 b1 (IntKind.i64.wrap (i5 + (1 : Int)))))
  (k)
def zz63_a4 : Option (Bool × Unit) :=
  some (true, (()))
def zz63_s (L4 : Y4 → Y4 → Int → Option (Bool × Unit)) (a_0 : Y4) (b_1 : Y4) : Option (Bool × Unit) :=
  cond (decide ((a_0.length : Int) ≠ (b_1.length : Int)))
  (some (false, (())))
  (L4 a_0 b_1 (0 : Int))
def zz63_l4 (N : Nat) (k : Option (Bool × Unit)) : Nat → Y4 → Y4 → Int → Option (Bool × Unit)
  | 0, _, _, _ => none
  | m + 1, a0, b1, i5 => zz63_b4 (zz63_l4 N k m) k a0 b1 i5
def zz63_F4 (N : Nat) (a0 : Y4) (b1 : Y4) (i5 : Int) : Option (Bool × Unit) := zz63_l4 N (zz63_a4) N a0 b1 i5
def zz63 (N : Nat) (a_0 : Y4) (b_1 : Y4) : Option (Bool × Unit) := zz63_s (zz63_F4 N) a_0 b_1
def S_zz63 : Sig := { a := (.pair (.sl I) (.pair (.sl I) .unit)), md := [0, 0], mf := [], m := .unit, r := .bool, rf := .i, f := fun x => zz63 big x.1 x.2.1 }
def A_zz63 : Cfg := mkCfg tab [] [(8, [.as (.sl I) .i, .as (.sl I) .i, .drop, .drop, .drop, .as I .i]), (17, [])]
noncomputable def zz63_R4 (N n : Nat) (K : Ex → St → Option (Bool × Unit)) (a0 : Y4) (b1 : Y4) (i5 : Int) : Option (Bool × Unit) := iter ((A_zz63).shape 8) (run (A_zz63) N (codeAt Try.f23 [1, 1, 0, 1, 0, 0])) n ([.val (.sl I) .i a0, .val (.sl I) .i b1, .u, .u, .u, .val I .i i5] ++ List.replicate 20 .u) K
noncomputable abbrev zz63_z : Ex → St → Option (Bool × Unit) := finish (A_zz63) S_zz63 Try.f23.results.toList
noncomputable abbrev zz63_X4 (kX : St → Option (Bool × Unit)) : Option (Bool × Unit) := kX ([] ++ List.replicate 26 .u)
noncomputable abbrev zz63_E4 (kX : St → Option (Bool × Unit)) (kO : Nat → St → Option (Bool × Unit)) : Ex → St → Option (Bool × Unit) := exK zz63_z 0 ((A_zz63).shape 17) kX kO
theorem zz63_step4 (N : Nat) (m : Nat) (kX : St → Option (Bool × Unit)) (kO : Nat → St → Option (Bool × Unit)) (a0 : Y4) (b1 : Y4) (i5 : Int) : zz63_R4 N (m + 1) (zz63_E4 kX kO) a0 b1 i5 = zz63_b4 (zz63_R4 N m (zz63_E4 kX kO)) (zz63_X4 kX) a0 b1 i5 := by kernel_rfl
theorem zz63_iter4 (N : Nat) (kX : St → Option (Bool × Unit)) (kO : Nat → St → Option (Bool × Unit)) : ∀ (n : Nat) (a0 : Y4) (b1 : Y4) (i5 : Int), zz63_R4 N n (zz63_E4 kX kO) a0 b1 i5 = zz63_l4 N (zz63_X4 kX) n a0 b1 i5
  | 0, _, _, _ => rfl
  | m + 1, a0, b1, i5 => by
    have hrec : zz63_R4 N m (zz63_E4 kX kO) = (zz63_l4 N (zz63_X4 kX) m) := (funext fun a0 => (funext fun b1 => (funext fun i5 => zz63_iter4 N kX kO m a0 b1 i5)))
    refine (zz63_step4 N m kX kO a0 b1 i5).trans ?_
    rw [hrec]
    rfl
noncomputable abbrev zz63_K4 (N : Nat) : Ex → St → Option (Bool × Unit) := (blockK 0 (seqK ((A_zz63).shape 17) (run (A_zz63) N (codeAt Try.f23 [1, 1, 1])) zz63_z))
noncomputable abbrev zz63_k4 (N : Nat) : St → Option (Bool × Unit) := fun st' => run (A_zz63) N (codeAt Try.f23 [1, 1, 1]) st' zz63_z
theorem zz63_after4 (N : Nat) : zz63_X4 (zz63_k4 N) = zz63_a4 := by kernel_rfl
theorem zz63_in4 (N : Nat) (a0 : Y4) (b1 : Y4) (i5 : Int) : zz63_R4 N N (zz63_K4 N) a0 b1 i5 = zz63_F4 N a0 b1 i5 :=
  have h : zz63_X4 (zz63_k4 N) = (zz63_a4) := zz63_after4 N
  ((iter_ex (fun st => by kernel_rfl) (fun st => by kernel_rfl)).trans (zz63_iter4 N (zz63_k4 N) (fun j st => (zz63_K4 N) (.exit j) st) N a0 b1 i5)).trans (congrArg (fun k => zz63_l4 N k N a0 b1 i5) h)
theorem run0_zz63 (N : Nat) (x : (S_zz63).a.den) : runF (A_zz63) N Try.f23 S_zz63 x = (zz63_s (zz63_R4 N N (zz63_K4 N)) x.1 x.2.1) := by kernel_rfl
theorem run_zz63 (N : Nat) (x : (S_zz63).a.den) : runF (A_zz63) N Try.f23 S_zz63 x = zz63 N x.1 x.2.1 := by
  refine (run0_zz63 N x).trans ?_
  rw [(funext fun a0 => (funext fun b1 => (funext fun i5 => zz63_in4 N a0 b1 i5)))]
  rfl
theorem fn_zz63 : FnOk Try.prog 23 := ⟨_, Try.func23, by kernel_rfl, by kernel_rfl⟩
theorem good_zz63 : Gx.Good Try.prog 23 S_zz63 := good_of_run Try.func23 (of_decide_eq_true (by kernel_rfl)) fun x r h => ⟨A_zz63, big, mkCfg_ok tabOk, mkCfg_sigs (show SigsOk Try.prog [] from trivial), (run_zz63 big x).trans h⟩

/-! zz64 -/
def zz64_b4 (rec : Y3 → Y3 → Int → Option (Bool × Unit)) (k : Option (Bool × Unit)) (a0 : Y3) (b1 : Y3) (i5 : Int) : Option (Bool × Unit) :=
  cond (decide (i5 < (a0.length : Int)))
  ((atI a0 i5).bind fun xq1 =>
  (atI b1 i5).bind fun xq2 =>
  (zz63 big xq1 xq2).bind fun rq3 =>
  cond (!rq3.1)
  (some (false, (())))
  (rec a0 b1 (IntKind.i64.wrap (i5 + (1 : Int)))))
  (k)
def zz64_a4 : Option (Bool × Unit) :=
  some (true, (()))
def zz64_s (L4 : Y3 → Y3 → Int → Option (Bool × Unit)) (a_0 : Y3) (b_1 : Y3) : Option (Bool × Unit) :=
  cond (decide ((a_0.length : Int) ≠ (b_1.length : Int)))
  (some (false, (())))
  (L4 a_0 b_1 (0 : Int))
def zz64_l4 (N : Nat) (k : Option (Bool × Unit)) : Nat → Y3 → Y3 → Int → Option (Bool × Unit)
  | 0, _, _, _ => none
  | m + 1, a0, b1, i5 => zz64_b4 (zz64_l4 N k m) k a0 b1 i5
def zz64_F4 (N : Nat) (a0 : Y3) (b1 : Y3) (i5 : Int) : Option (Bool × Unit) := zz64_l4 N (zz64_a4) N a0 b1 i5
def zz64 (N : Nat) (a_0 : Y3) (b_1 : Y3) : Option (Bool × Unit) := zz64_s (zz64_F4 N) a_0 b_1
def S_zz64 : Sig := { a := (.pair (.sl (.sl I)) (.pair (.sl (.sl I)) .unit)), md := [0, 0], mf := [], m := .unit, r := .bool, rf := .i, f := fun x => zz64 big x.1 x.2.1 }
def A_zz64 : Cfg := mkCfg tab [(23, S_zz63)] [(8, [.as (.sl (.sl I)) .i, .as (.sl (.sl I)) .i, .drop, .drop, .drop, .as I .i]), (17, [])]
noncomputable def zz64_R4 (N n : Nat) (K : Ex → St → Option (Bool × Unit)) (a0 : Y3) (b1 : Y3) (i5 : Int) : Option (Bool × Unit) := iter ((A_zz64).shape 8) (run (A_zz64) N (codeAt Try.f43 [1, 1, 0, 1, 0, 0])) n ([.val (.sl (.sl I)) .i a0, .val (.sl (.sl I)) .i b1, .u, .u, .u, .val I .i i5] ++ List.replicate 21 .u) K
noncomputable abbrev zz64_z : Ex → St → Option (Bool × Unit) := finish (A_zz64) S_zz64 Try.f43.results.toList
noncomputable abbrev zz64_X4 (kX : St → Option (Bool × Unit)) : Option (Bool × Unit) := kX ([] ++ List.replicate 27 .u)
noncomputable abbrev zz64_E4 (kX : St → Option (Bool × Unit)) (kO : Nat → St → Option (Bool × Unit)) : Ex → St → Option (Bool × Unit) := exK zz64_z 0 ((A_zz64).shape 17) kX kO
theorem zz64_step4 (N : Nat) (m : Nat) (kX : St → Option (Bool × Unit)) (kO : Nat → St → Option (Bool × Unit)) (a0 : Y3) (b1 : Y3) (i5 : Int) : zz64_R4 N (m + 1) (zz64_E4 kX kO) a0 b1 i5 = zz64_b4 (zz64_R4 N m (zz64_E4 kX kO)) (zz64_X4 kX) a0 b1 i5 := by kernel_rfl
theorem zz64_iter4 (N : Nat) (kX : St → Option (Bool × Unit)) (kO : Nat → St → Option (Bool × Unit)) : ∀ (n : Nat) (a0 : Y3) (b1 : Y3) (i5 : Int), zz64_R4 N n (zz64_E4 kX kO) a0 b1 i5 = zz64_l4 N (zz64_X4 kX) n a0 b1 i5
  | 0, _, _, _ => rfl
  | m + 1, a0, b1, i5 => by
    have hrec : zz64_R4 N m (zz64_E4 kX kO) = (zz64_l4 N (zz64_X4 kX) m) := (funext fun a0 => (funext fun b1 => (funext fun i5 => zz64_iter4 N kX kO m a0 b1 i5)))
    refine (zz64_step4 N m kX kO a0 b1 i5).trans ?_
    rw [hrec]
    rfl
noncomputable abbrev zz64_K4 (N : Nat) : Ex → St → Option (Bool × Unit) := (blockK 0 (seqK ((A_zz64).shape 17) (run (A_zz64) N (codeAt Try.f43 [1, 1, 1])) zz64_z))
noncomputable abbrev zz64_k4 (N : Nat) : St → Option (Bool × Unit) := fun st' => run (A_zz64) N (codeAt Try.f43 [1, 1, 1]) st' zz64_z
theorem zz64_after4 (N : Nat) : zz64_X4 (zz64_k4 N) = zz64_a4 := by kernel_rfl
theorem zz64_in4 (N : Nat) (a0 : Y3) (b1 : Y3) (i5 : Int) : zz64_R4 N N (zz64_K4 N) a0 b1 i5 = zz64_F4 N a0 b1 i5 :=
  have h : zz64_X4 (zz64_k4 N) = (zz64_a4) := zz64_after4 N
  ((iter_ex (fun st => by kernel_rfl) (fun st => by kernel_rfl)).trans (zz64_iter4 N (zz64_k4 N) (fun j st => (zz64_K4 N) (.exit j) st) N a0 b1 i5)).trans (congrArg (fun k => zz64_l4 N k N a0 b1 i5) h)
theorem run0_zz64 (N : Nat) (x : (S_zz64).a.den) : runF (A_zz64) N Try.f43 S_zz64 x = (zz64_s (zz64_R4 N N (zz64_K4 N)) x.1 x.2.1) := by kernel_rfl
theorem run_zz64 (N : Nat) (x : (S_zz64).a.den) : runF (A_zz64) N Try.f43 S_zz64 x = zz64 N x.1 x.2.1 := by
  refine (run0_zz64 N x).trans ?_
  rw [(funext fun a0 => (funext fun b1 => (funext fun i5 => zz64_in4 N a0 b1 i5)))]
  rfl
theorem fn_zz64 : FnOk Try.prog 43 := ⟨_, Try.func43, by kernel_rfl, by kernel_rfl⟩
theorem good_zz64 : Gx.Good Try.prog 43 S_zz64 := good_of_run Try.func43 (of_decide_eq_true (by kernel_rfl)) fun x r h => ⟨A_zz64, big, mkCfg_ok tabOk, mkCfg_sigs (show SigsOk Try.prog [(23, S_zz63)] from ⟨⟨fn_zz63, good_zz63⟩, trivial⟩), (run_zz64 big x).trans h⟩

/-! zz65 -/
def zz65_s (a_0 : Y2) (b_1 : Y2) : Option (Bool × Unit) :=
  (zz64 big a_0.1 b_1.1).bind fun rq1 =>
  cond (!rq1.1)
  (some (false, (())))
  (some (true, (())))
def zz65 (a_0 : Y2) (b_1 : Y2) : Option (Bool × Unit) := zz65_s a_0 b_1
def S_zz65 : Sig := { a := (.pair (.pair (.sl (.sl I)) .unit) (.pair (.pair (.sl (.sl I)) .unit) .unit)), md := [0, 0], mf := [], m := .unit, r := .bool, rf := .i, f := fun x => zz65 x.1 x.2.1 }
def A_zz65 : Cfg := mkCfg tab [(43, S_zz64)] []
theorem run_zz65 (N : Nat) (x : (S_zz65).a.den) : runF (A_zz65) N Try.f14 S_zz65 x = zz65 x.1 x.2.1 := by kernel_rfl
theorem fn_zz65 : FnOk Try.prog 14 := ⟨_, Try.func14, by kernel_rfl, by kernel_rfl⟩
theorem good_zz65 : Gx.Good Try.prog 14 S_zz65 := good_of_run Try.func14 (of_decide_eq_true (by kernel_rfl)) fun x r h => ⟨A_zz65, big, mkCfg_ok tabOk, mkCfg_sigs (show SigsOk Try.prog [(43, S_zz64)] from ⟨⟨fn_zz64, good_zz64⟩, trivial⟩), (run_zz65 big x).trans h⟩

/-! zz66 -/
def zz66_b2 (rec : Y4 → Int → Int → Option Y6) (k : Y4 → Int → Option Y6) (a0 : Y4) (k1 : Int) (i5 : Int) : Option Y6 :=
  cond (decide (i5 < (a0.length : Int)))
  ((atI a0 i5).bind fun _ =>
  (a0[i5.toNat]?).bind fun xq1 =>
  rec (a0.set i5.toNat k1) (IntKind.i64.wrap (k1 + (1 : Int))) (IntKind.i64.wrap (i5 + (1 : Int))))
  (k a0 k1)
def zz66_a2 (a0 : Y4) (k1 : Int) : Option Y6 :=
  some (k1, (a0, ()))
def zz66_s (L2 : Y4 → Int → Int → Option Y6) (a_0 : Y4) (k_1 : Int) : Option Y6 :=
  L2 a_0 k_1 (0 : Int)
def zz66_l2 (N : Nat) (k : Y4 → Int → Option Y6) : Nat → Y4 → Int → Int → Option Y6
  | 0, _, _, _ => none
  | m + 1, a0, k1, i5 => zz66_b2 (zz66_l2 N k m) k a0 k1 i5
def zz66_F2 (N : Nat) (a0 : Y4) (k1 : Int) (i5 : Int) : Option Y6 := zz66_l2 N (zz66_a2) N a0 k1 i5
def zz66 (N : Nat) (a_0 : Y4) (k_1 : Int) : Option Y6 := zz66_s (zz66_F2 N) a_0 k_1
def S_zz66 : Sig := { a := (.pair (.sl I) (.pair I .unit)), md := [1, 0], mf := [(.o .i)], m := (.pair (.sl I) .unit), r := I, rf := .i, f := fun x => zz66 big x.1 x.2.1 }
def A_zz66 : Cfg := mkCfg tab [] [(4, [.as (.sl I) (.o .i), .as I .i, .drop, .drop, .drop, .as I .i]), (13, [.as (.sl I) (.o .i), .as I .i])]
noncomputable def zz66_R2 (N n : Nat) (K : Ex → St → Option Y6) (a0 : Y4) (k1 : Int) (i5 : Int) : Option Y6 := iter ((A_zz66).shape 4) (run (A_zz66) N (codeAt Try.f24 [1, 0, 1, 0, 0])) n ([.val (.sl I) (.o .i) a0, .val I .i k1, .u, .u, .u, .val I .i i5] ++ List.replicate 13 .u) K
noncomputable abbrev zz66_z : Ex → St → Option Y6 := finish (A_zz66) S_zz66 Try.f24.results.toList
noncomputable abbrev zz66_X2 (kX : St → Option Y6) : Y4 → Int → Option Y6 := fun (a0 : Y4) (k1 : Int) => kX ([.val (.sl I) (.o .i) a0, .val I .i k1] ++ List.replicate 17 .u)
noncomputable abbrev zz66_E2 (kX : St → Option Y6) (kO : Nat → St → Option Y6) : Ex → St → Option Y6 := exK zz66_z 0 ((A_zz66).shape 13) kX kO
theorem zz66_step2 (N : Nat) (m : Nat) (kX : St → Option Y6) (kO : Nat → St → Option Y6) (a0 : Y4) (k1 : Int) (i5 : Int) : zz66_R2 N (m + 1) (zz66_E2 kX kO) a0 k1 i5 = zz66_b2 (zz66_R2 N m (zz66_E2 kX kO)) (zz66_X2 kX) a0 k1 i5 := by kernel_rfl
theorem zz66_iter2 (N : Nat) (kX : St → Option Y6) (kO : Nat → St → Option Y6) : ∀ (n : Nat) (a0 : Y4) (k1 : Int) (i5 : Int), zz66_R2 N n (zz66_E2 kX kO) a0 k1 i5 = zz66_l2 N (zz66_X2 kX) n a0 k1 i5
  | 0, _, _, _ => rfl
  | m + 1, a0, k1, i5 => by
    have hrec : zz66_R2 N m (zz66_E2 kX kO) = (zz66_l2 N (zz66_X2 kX) m) := (funext fun a0 => (funext fun k1 => (funext fun i5 => zz66_iter2 N kX kO m a0 k1 i5)))
    refine (zz66_step2 N m kX kO a0 k1 i5).trans ?_
    rw [hrec]
    rfl
noncomputable abbrev zz66_K2 (N : Nat) : Ex → St → Option Y6 := (blockK 0 (seqK ((A_zz66).shape 13) (run (A_zz66) N (codeAt Try.f24 [1, 1])) zz66_z))
noncomputable abbrev zz66_k2 (N : Nat) : St → Option Y6 := fun st' => run (A_zz66) N (codeAt Try.f24 [1, 1]) st' zz66_z
theorem zz66_after2 (N : Nat) (a0 : Y4) (k1 : Int) : zz66_X2 (zz66_k2 N) a0 k1 = zz66_a2 a0 k1 := by kernel_rfl
theorem zz66_in2 (N : Nat) (a0 : Y4) (k1 : Int) (i5 : Int) : zz66_R2 N N (zz66_K2 N) a0 k1 i5 = zz66_F2 N a0 k1 i5 :=
  have h : zz66_X2 (zz66_k2 N) = (zz66_a2) := (funext fun a0 => (funext fun k1 => zz66_after2 N a0 k1))
  ((iter_ex (fun st => by kernel_rfl) (fun st => by kernel_rfl)).trans (zz66_iter2 N (zz66_k2 N) (fun j st => (zz66_K2 N) (.exit j) st) N a0 k1 i5)).trans (congrArg (fun k => zz66_l2 N k N a0 k1 i5) h)
theorem run0_zz66 (N : Nat) (x : (S_zz66).a.den) : runF (A_zz66) N Try.f24 S_zz66 x = (zz66_s (zz66_R2 N N (zz66_K2 N)) x.1 x.2.1) := by kernel_rfl
theorem run_zz66 (N : Nat) (x : (S_zz66).a.den) : runF (A_zz66) N Try.f24 S_zz66 x = zz66 N x.1 x.2.1 := by
  refine (run0_zz66 N x).trans ?_
  rw [(funext fun a0 => (funext fun k1 => (funext fun i5 => zz66_in2 N a0 k1 i5)))]
  rfl
theorem fn_zz66 : FnOk Try.prog 24 := ⟨_, Try.func24, by kernel_rfl, by kernel_rfl⟩
theorem good_zz66 : Gx.Good Try.prog 24 S_zz66 := good_of_run Try.func24 (of_decide_eq_true (by kernel_rfl)) fun x r h => ⟨A_zz66, big, mkCfg_ok tabOk, mkCfg_sigs (show SigsOk Try.prog [] from trivial), (run_zz66 big x).trans h⟩

/-! zz67 -/
def zz67_b2 (rec : Y3 → Int → Int → Option (Int × Y2)) (k : Y3 → Int → Option (Int × Y2)) (a0 : Y3) (k1 : Int) (i5 : Int) : Option (Int × Y2) :=
  cond (decide (i5 < (a0.length : Int)))
  ((atI a0 i5).bind fun _ =>
  (a0[i5.toNat]?).bind fun xq1 =>
  (a0[i5.toNat]?).bind fun xq2 =>
  (zz66 big xq2 k1).bind fun rq3 =>
  (a0[i5.toNat]?).bind fun xq4 =>
  (a0[i5.toNat]?).bind fun xq5 =>
  rec (a0.set i5.toNat rq3.2.1) rq3.1 (IntKind.i64.wrap (i5 + (1 : Int))))
  (k a0 k1)
def zz67_a2 (a0 : Y3) (k1 : Int) : Option (Int × Y2) :=
  some (k1, (a0, ()))
def zz67_s (L2 : Y3 → Int → Int → Option (Int × Y2)) (a_0 : Y3) (k_1 : Int) : Option (Int × Y2) :=
  L2 a_0 k_1 (0 : Int)
def zz67_l2 (N : Nat) (k : Y3 → Int → Option (Int × Y2)) : Nat → Y3 → Int → Int → Option (Int × Y2)
  | 0, _, _, _ => none
  | m + 1, a0, k1, i5 => zz67_b2 (zz67_l2 N k m) k a0 k1 i5
def zz67_F2 (N : Nat) (a0 : Y3) (k1 : Int) (i5 : Int) : Option (Int × Y2) := zz67_l2 N (zz67_a2) N a0 k1 i5
def zz67 (N : Nat) (a_0 : Y3) (k_1 : Int) : Option (Int × Y2) := zz67_s (zz67_F2 N) a_0 k_1
def S_zz67 : Sig := { a := (.pair (.sl (.sl I)) (.pair I .unit)), md := [1, 0], mf := [(.o (.o .i))], m := (.pair (.sl (.sl I)) .unit), r := I, rf := .i, f := fun x => zz67 big x.1 x.2.1 }
def A_zz67 : Cfg := mkCfg tab [(24, S_zz66)] [(4, [.as (.sl (.sl I)) (.o (.o .i)), .as I .i, .drop, .drop, .drop, .as I .i]), (11, [.as (.sl (.sl I)) (.o (.o .i)), .as I .i])]
noncomputable def zz67_R2 (N n : Nat) (K : Ex → St → Option (Int × Y2)) (a0 : Y3) (k1 : Int) (i5 : Int) : Option (Int × Y2) := iter ((A_zz67).shape 4) (run (A_zz67) N (codeAt Try.f44 [1, 0, 1, 0, 0])) n ([.val (.sl (.sl I)) (.o (.o .i)) a0, .val I .i k1, .u, .u, .u, .val I .i i5] ++ List.replicate 13 .u) K
noncomputable abbrev zz67_z : Ex → St → Option (Int × Y2) := finish (A_zz67) S_zz67 Try.f44.results.toList
noncomputable abbrev zz67_X2 (kX : St → Option (Int × Y2)) : Y3 → Int → Option (Int × Y2) := fun (a0 : Y3) (k1 : Int) => kX ([.val (.sl (.sl I)) (.o (.o .i)) a0, .val I .i k1] ++ List.replicate 17 .u)
noncomputable abbrev zz67_E2 (kX : St → Option (Int × Y2)) (kO : Nat → St → Option (Int × Y2)) : Ex → St → Option (Int × Y2) := exK zz67_z 0 ((A_zz67).shape 11) kX kO
theorem zz67_step2 (N : Nat) (m : Nat) (kX : St → Option (Int × Y2)) (kO : Nat → St → Option (Int × Y2)) (a0 : Y3) (k1 : Int) (i5 : Int) : zz67_R2 N (m + 1) (zz67_E2 kX kO) a0 k1 i5 = zz67_b2 (zz67_R2 N m (zz67_E2 kX kO)) (zz67_X2 kX) a0 k1 i5 := by kernel_rfl
theorem zz67_iter2 (N : Nat) (kX : St → Option (Int × Y2)) (kO : Nat → St → Option (Int × Y2)) : ∀ (n : Nat) (a0 : Y3) (k1 : Int) (i5 : Int), zz67_R2 N n (zz67_E2 kX kO) a0 k1 i5 = zz67_l2 N (zz67_X2 kX) n a0 k1 i5
  | 0, _, _, _ => rfl
  | m + 1, a0, k1, i5 => by
    have hrec : zz67_R2 N m (zz67_E2 kX kO) = (zz67_l2 N (zz67_X2 kX) m) := (funext fun a0 => (funext fun k1 => (funext fun i5 => zz67_iter2 N kX kO m a0 k1 i5)))
    refine (zz67_step2 N m kX kO a0 k1 i5).trans ?_
    rw [hrec]
    rfl
noncomputable abbrev zz67_K2 (N : Nat) : Ex → St → Option (Int × Y2) := (blockK 0 (seqK ((A_zz67).shape 11) (run (A_zz67) N (codeAt Try.f44 [1, 1])) zz67_z))
noncomputable abbrev zz67_k2 (N : Nat) : St → Option (Int × Y2) := fun st' => run (A_zz67) N (codeAt Try.f44 [1, 1]) st' zz67_z
theorem zz67_after2 (N : Nat) (a0 : Y3) (k1 : Int) : zz67_X2 (zz67_k2 N) a0 k1 = zz67_a2 a0 k1 := by kernel_rfl
theorem zz67_in2 (N : Nat) (a0 : Y3) (k1 : Int) (i5 : Int) : zz67_R2 N N (zz67_K2 N) a0 k1 i5 = zz67_F2 N a0 k1 i5 :=
  have h : zz67_X2 (zz67_k2 N) = (zz67_a2) := (funext fun a0 => (funext fun k1 => zz67_after2 N a0 k1))
  ((iter_ex (fun st => by kernel_rfl) (fun st => by kernel_rfl)).trans (zz67_iter2 N (zz67_k2 N) (fun j st => (zz67_K2 N) (.exit j) st) N a0 k1 i5)).trans (congrArg (fun k => zz67_l2 N k N a0 k1 i5) h)
theorem run0_zz67 (N : Nat) (x : (S_zz67).a.den) : runF (A_zz67) N Try.f44 S_zz67 x = (zz67_s (zz67_R2 N N (zz67_K2 N)) x.1 x.2.1) := by kernel_rfl
theorem run_zz67 (N : Nat) (x : (S_zz67).a.den) : runF (A_zz67) N Try.f44 S_zz67 x = zz67 N x.1 x.2.1 := by
  refine (run0_zz67 N x).trans ?_
  rw [(funext fun a0 => (funext fun k1 => (funext fun i5 => zz67_in2 N a0 k1 i5)))]
  rfl
theorem fn_zz67 : FnOk Try.prog 44 := ⟨_, Try.func44, by kernel_rfl, by kernel_rfl⟩
theorem good_zz67 : Gx.Good Try.prog 44 S_zz67 := good_of_run Try.func44 (of_decide_eq_true (by kernel_rfl)) fun x r h => ⟨A_zz67, big, mkCfg_ok tabOk, mkCfg_sigs (show SigsOk Try.prog [(24, S_zz66)] from ⟨⟨fn_zz66, good_zz66⟩, trivial⟩), (run_zz67 big x).trans h⟩

/-! zz68 -/
def zz68 (a_0 : Y2) (k_1 : Int) : Option (Int × (Y2 × Unit)) := (zz67 big a_0.1 k_1).bind fun r => some (r.1, ((r.2.1, ()), ()))
def S_zz68 : Sig := { a := (.pair (.pair (.sl (.sl I)) .unit) (.pair I .unit)), md := [1, 0], mf := [(.p (.o (.o .i)) .i)], m := (.pair (.pair (.sl (.sl I)) .unit) .unit), r := I, rf := .i, f := fun x => zz68 x.1 x.2.1 }
theorem fn_zz68 : FnOk Try.prog 15 := ⟨_, Try.func15, by kernel_rfl, by kernel_rfl⟩
theorem good_zz68 : Gx.Good Try.prog 15 S_zz68   := good_bx1 (A := mkCfg tab [] []) (T := 31) (TS := 22) (mkCfg_ok tabOk) Try.func15 (by kernel_rfl) (by kernel_rfl) fn_zz67 (by kernel_rfl) (by kernel_rfl) good_zz67

/-! zz69 -/
def zz69_b2 (rec : Y4 → Int → Int → Option (Int × Unit)) (k : Int → Option (Int × Unit)) (a0 : Y4) (k1 : Int) (i5 : Int) : Option (Int × Unit) :=
  cond (decide (i5 < (a0.length : Int)))
  ((atI a0 i5).bind fun xq1 =>
  cond (decide (xq1 ≠ k1))
  (some ((-1 : Int), (())))
  (rec a0 (IntKind.i64.wrap (k1 + (1 : Int))) (IntKind.i64.wrap (i5 + (1 : Int)))))
  (k k1)
def zz69_a2 (k1 : Int) : Option (Int × Unit) :=
  some (k1, (()))
def zz69_s (L2 : Y4 → Int → Int → Option (Int × Unit)) (a_0 : Y4) (k_1 : Int) : Option (Int × Unit) :=
  L2 a_0 k_1 (0 : Int)
def zz69_l2 (N : Nat) (k : Int → Option (Int × Unit)) : Nat → Y4 → Int → Int → Option (Int × Unit)
  | 0, _, _, _ => none
  | m + 1, a0, k1, i5 => zz69_b2 (zz69_l2 N k m) k a0 k1 i5
def zz69_F2 (N : Nat) (a0 : Y4) (k1 : Int) (i5 : Int) : Option (Int × Unit) := zz69_l2 N (zz69_a2) N a0 k1 i5
def zz69 (N : Nat) (a_0 : Y4) (k_1 : Int) : Option (Int × Unit) := zz69_s (zz69_F2 N) a_0 k_1
def S_zz69 : Sig := { a := (.pair (.sl I) (.pair I .unit)), md := [0, 0], mf := [], m := .unit, r := I, rf := .i, f := fun x => zz69 big x.1 x.2.1 }
def A_zz69 : Cfg := mkCfg tab [] [(4, [.as (.sl I) .i, .as I .i, .drop, .drop, .drop, .as I .i]), (15, [.drop, .as I .i])]
noncomputable def zz69_R2 (N n : Nat) (K : Ex → St → Option (Int × Unit)) (a0 : Y4) (k1 : Int) (i5 : Int) : Option (Int × Unit) := iter ((A_zz69).shape 4) (run (A_zz69) N (codeAt Try.f25 [1, 0, 1, 0, 0])) n ([.val (.sl I) .i a0, .val I .i k1, .u, .u, .u, .val I .i i5] ++ List.replicate 15 .u) K
noncomputable abbrev zz69_z : Ex → St → Option (Int × Unit) := finish (A_zz69) S_zz69 Try.f25.results.toList
noncomputable abbrev zz69_X2 (kX : St → Option (Int × Unit)) : Int → Option (Int × Unit) := fun (k1 : Int) => kX ([.u, .val I .i k1] ++ List.replicate 19 .u)
noncomputable abbrev zz69_E2 (kX : St → Option (Int × Unit)) (kO : Nat → St → Option (Int × Unit)) : Ex → St → Option (Int × Unit) := exK zz69_z 0 ((A_zz69).shape 15) kX kO
theorem zz69_step2 (N : Nat) (m : Nat) (kX : St → Option (Int × Unit)) (kO : Nat → St → Option (Int × Unit)) (a0 : Y4) (k1 : Int) (i5 : Int) : zz69_R2 N (m + 1) (zz69_E2 kX kO) a0 k1 i5 = zz69_b2 (zz69_R2 N m (zz69_E2 kX kO)) (zz69_X2 kX) a0 k1 i5 := by kernel_rfl
theorem zz69_iter2 (N : Nat) (kX : St → Option (Int × Unit)) (kO : Nat → St → Option (Int × Unit)) : ∀ (n : Nat) (a0 : Y4) (k1 : Int) (i5 : Int), zz69_R2 N n (zz69_E2 kX kO) a0 k1 i5 = zz69_l2 N (zz69_X2 kX) n a0 k1 i5
  | 0, _, _, _ => rfl
  | m + 1, a0, k1, i5 => by
    have hrec : zz69_R2 N m (zz69_E2 kX kO) = (zz69_l2 N (zz69_X2 kX) m) := (funext fun a0 => (funext fun k1 => (funext fun i5 => zz69_iter2 N kX kO m a0 k1 i5)))
    refine (zz69_step2 N m kX kO a0 k1 i5).trans ?_
    rw [hrec]
    rfl
noncomputable abbrev zz69_K2 (N : Nat) : Ex → St → Option (Int × Unit) := (blockK 0 (seqK ((A_zz69).shape 15) (run (A_zz69) N (codeAt Try.f25 [1, 1])) zz69_z))
noncomputable abbrev zz69_k2 (N : Nat) : St → Option (Int × Unit) := fun st' => run (A_zz69) N (codeAt Try.f25 [1, 1]) st' zz69_z
theorem zz69_after2 (N : Nat) (k1 : Int) : zz69_X2 (zz69_k2 N) k1 = zz69_a2 k1 := by kernel_rfl
theorem zz69_in2 (N : Nat) (a0 : Y4) (k1 : Int) (i5 : Int) : zz69_R2 N N (zz69_K2 N) a0 k1 i5 = zz69_F2 N a0 k1 i5 :=
  have h : zz69_X2 (zz69_k2 N) = (zz69_a2) := (funext fun k1 => zz69_after2 N k1)
  ((iter_ex (fun st => by kernel_rfl) (fun st => by kernel_rfl)).trans (zz69_iter2 N (zz69_k2 N) (fun j st => (zz69_K2 N) (.exit j) st) N a0 k1 i5)).trans (congrArg (fun k => zz69_l2 N k N a0 k1 i5) h)
theorem run0_zz69 (N : Nat) (x : (S_zz69).a.den) : runF (A_zz69) N Try.f25 S_zz69 x = (zz69_s (zz69_R2 N N (zz69_K2 N)) x.1 x.2.1) := by kernel_rfl
theorem run_zz69 (N : Nat) (x : (S_zz69).a.den) : runF (A_zz69) N Try.f25 S_zz69 x = zz69 N x.1 x.2.1 := by
  refine (run0_zz69 N x).trans ?_
  rw [(funext fun a0 => (funext fun k1 => (funext fun i5 => zz69_in2 N a0 k1 i5)))]
  rfl
theorem fn_zz69 : FnOk Try.prog 25 := ⟨_, Try.func25, by kernel_rfl, by kernel_rfl⟩
theorem good_zz69 : Gx.Good Try.prog 25 S_zz69 := good_of_run Try.func25 (of_decide_eq_true (by kernel_rfl)) fun x r h => ⟨A_zz69, big, mkCfg_ok tabOk, mkCfg_sigs (show SigsOk Try.prog [] from trivial), (run_zz69 big x).trans h⟩

/-! laws_FnExactContractedBy -/
def laws_FnExactContractedBy_s (aP_0 : Y2) (aC_1 : Y4) : Option (Bool × Unit) :=
  cond (decide ((1048576 : Int) < (aC_1.length : Int)))
  (some (true, (())))
  ((zz2 aP_0 (1048576 : Int)).bind fun rq1 =>
  cond (decide (rq1.1 < (0 : Int)))
  (some (true, (())))
  ((zz5 aP_0).bind fun rq2 =>
  (zz3 big aC_1).bind fun rq3 =>
  (zz32 rq2.1 rq3.1).bind fun rq4 =>
  (zz5 aP_0).bind fun rq5 =>
  (zz3 big aC_1).bind fun rq6 =>
  (zz62 rq5.1 rq6.1).bind fun rq7 =>
  (zz63 big rq7.1.1 rq4.1.1).bind fun rq8 =>
  cond (!rq8.1)
  (some (false, (())))
  (cond (((((), rq7.1.2).2).1) != ((((), rq4.1.2).2).1))
  (some (false, (())))
  ((zz5 aP_0).bind fun rq9 =>
  (zz65 rq5.1 rq9.1).bind fun rq10 =>
  cond (!rq10.1)
  (some (false, (())))
  ((zz3 big aC_1).bind fun rq11 =>
  (zz63 big rq6.1 rq11.1).bind fun rq12 =>
  cond (!rq12.1)
  (some (false, (())))
  ((zz68 rq5.1 (1 : Int)).bind fun rq13 =>
  (zz66 big rq6.1 rq13.1).bind fun rq14 =>
  cond (decide (rq14.1 < (0 : Int)))
  (some (false, (())))
  ((zz63 big rq7.1.1 rq4.1.1).bind fun rq15 =>
  cond (!rq15.1)
  (some (false, (())))
  (cond (((((), rq7.1.2).2).1) != ((((), rq4.1.2).2).1))
  (some (false, (())))
  ((zz66 big rq7.1.1 (1 : Int)).bind fun rq16 =>
  (zz69 big rq16.2.1 (1 : Int)).bind fun rq17 =>
  cond (decide (rq17.1 < (0 : Int)))
  (some (false, (())))
  (cond (decide (rq17.1 ≠ rq16.1))
  (some (false, (())))
  ((zz5 aP_0).bind fun rq18 =>
  (zz3 big aC_1).bind fun rq19 =>
  (zz62 rq18.1 rq19.1).bind fun rq20 =>
  (zz63 big rq20.1.1 rq4.1.1).bind fun rq21 =>
  cond (!rq21.1)
  (some (false, (())))
  (cond (((((), rq20.1.2).2).1) != ((((), rq4.1.2).2).1))
  (some (false, (())))
  ((zz69 big rq16.2.1 (1 : Int)).bind fun rq22 =>
  cond (decide (rq22.1 < (0 : Int)))
  (some (false, (())))
  (cond (decide (rq22.1 ≠ rq16.1))
  (some (false, (())))
  (some (true, (())))))))))))))))))
def laws_FnExactContractedBy (aP_0 : Y2) (aC_1 : Y4) : Option (Bool × Unit) := laws_FnExactContractedBy_s aP_0 aC_1
def S_laws_FnExactContractedBy : Sig := { a := (.pair (.pair (.sl (.sl I)) .unit) (.pair (.sl I) .unit)), md := [0, 0], mf := [], m := .unit, r := .bool, rf := .i, f := fun x => laws_FnExactContractedBy x.1 x.2.1 }
def A_laws_FnExactContractedBy : Cfg := mkCfg tab [(9, S_zz2), (11, S_zz5), (21, S_zz3), (20, S_zz32), (22, S_zz62), (23, S_zz63), (14, S_zz65), (15, S_zz68), (24, S_zz66), (25, S_zz69)] []
theorem run_laws_FnExactContractedBy (N : Nat) (x : (S_laws_FnExactContractedBy).a.den) : runF (A_laws_FnExactContractedBy) N Try.f5 S_laws_FnExactContractedBy x = laws_FnExactContractedBy x.1 x.2.1 := by kernel_rfl
theorem fn_laws_FnExactContractedBy : FnOk Try.prog 5 := ⟨_, Try.func5, by kernel_rfl, by kernel_rfl⟩
theorem good_laws_FnExactContractedBy : Gx.Good Try.prog 5 S_laws_FnExactContractedBy := good_of_run Try.func5 (of_decide_eq_true (by kernel_rfl)) fun x r h => ⟨A_laws_FnExactContractedBy, big, mkCfg_ok tabOk, mkCfg_sigs (show SigsOk Try.prog [(9, S_zz2), (11, S_zz5), (21, S_zz3), (20, S_zz32), (22, S_zz62), (23, S_zz63), (14, S_zz65), (15, S_zz68), (24, S_zz66), (25, S_zz69)] from ⟨⟨fn_zz2, good_zz2⟩, ⟨fn_zz5, good_zz5⟩, ⟨fn_zz3, good_zz3⟩, ⟨fn_zz32, good_zz32⟩, ⟨fn_zz62, good_zz62⟩, ⟨fn_zz63, good_zz63⟩, ⟨fn_zz65, good_zz65⟩, ⟨fn_zz68, good_zz68⟩, ⟨fn_zz66, good_zz66⟩, ⟨fn_zz69, good_zz69⟩, trivial⟩), (run_laws_FnExactContractedBy big x).trans h⟩

/-! zz70 -/
def zz70_s (p_0 : Y2) (x_1 : Int) (y_2 : Int) : Option (Int × Unit) :=
  (zz12 big p_0).bind fun rq1 =>
  (zz13 big rq1.1 [x_1, y_2]).bind fun rq2 =>
  some (rq2.1, (()))
def zz70 (p_0 : Y2) (x_1 : Int) (y_2 : Int) : Option (Int × Unit) := zz70_s p_0 x_1 y_2
def S_zz70 : Sig := { a := (.pair (.pair (.sl (.sl I)) .unit) (.pair I (.pair I .unit))), md := [0, 0, 0], mf := [], m := .unit, r := I, rf := .i, f := fun x => zz70 x.1 x.2.1 x.2.2.1 }
def A_zz70 : Cfg := mkCfg tab [(97, S_zz12), (98, S_zz13)] []
theorem run_zz70 (N : Nat) (x : (S_zz70).a.den) : runF (A_zz70) N Try.f124 S_zz70 x = zz70 x.1 x.2.1 x.2.2.1 := by kernel_rfl
theorem fn_zz70 : FnOk Try.prog 124 := ⟨_, Try.func124, by kernel_rfl, by kernel_rfl⟩
theorem good_zz70 : Gx.Good Try.prog 124 S_zz70 := good_of_run Try.func124 (of_decide_eq_true (by kernel_rfl)) fun x r h => ⟨A_zz70, big, mkCfg_ok tabOk, mkCfg_sigs (show SigsOk Try.prog [(97, S_zz12), (98, S_zz13)] from ⟨⟨fn_zz12, good_zz12⟩, ⟨fn_zz13, good_zz13⟩, trivial⟩), (run_zz70 big x).trans h⟩

/-! zz71 -/
def zz71_s (p_0 : Y2) (x_1 : Int) (y_2 : Int) : Option (Int × Unit) :=
  (zz13 big p_0 [x_1, y_2]).bind fun rq1 =>
  some (rq1.1, (()))
def zz71 (p_0 : Y2) (x_1 : Int) (y_2 : Int) : Option (Int × Unit) := zz71_s p_0 x_1 y_2
def S_zz71 : Sig := { a := (.pair (.pair (.sl (.sl I)) .unit) (.pair I (.pair I .unit))), md := [0, 0, 0], mf := [], m := .unit, r := I, rf := .i, f := fun x => zz71 x.1 x.2.1 x.2.2.1 }
def A_zz71 : Cfg := mkCfg tab [(98, S_zz13)] []
theorem run_zz71 (N : Nat) (x : (S_zz71).a.den) : runF (A_zz71) N Try.f83 S_zz71 x = zz71 x.1 x.2.1 x.2.2.1 := by kernel_rfl
theorem fn_zz71 : FnOk Try.prog 83 := ⟨_, Try.func83, by kernel_rfl, by kernel_rfl⟩
theorem good_zz71 : Gx.Good Try.prog 83 S_zz71 := good_of_run Try.func83 (of_decide_eq_true (by kernel_rfl)) fun x r h => ⟨A_zz71, big, mkCfg_ok tabOk, mkCfg_sigs (show SigsOk Try.prog [(98, S_zz13)] from ⟨⟨fn_zz13, good_zz13⟩, trivial⟩), (run_zz71 big x).trans h⟩

/-! zz72 -/
def zz72_b9 (rec : Y2 → Int → Int → Int → Int → Option ((Y4 × (Bool × Unit)) × Unit)) (k : Y2 → Int → Int → Int → Option ((Y4 × (Bool × Unit)) × Unit)) (p1 : Y2) (n4 : Int) (x5 : Int) (y6 : Int) (z7 : Int) : Option ((Y4 × (Bool × Unit)) × Unit) :=
  cond (decide (z7 < n4))
  ((zz70 p1 y6 z7).bind fun rq1 =>
  (zz71 p1 x5 rq1.1).bind fun rq2 =>
  (zz71 p1 x5 y6).bind fun rq3 =>
  (zz71 p1 x5 z7).bind fun rq4 =>
  (zz70 p1 rq3.1 rq4.1).bind fun rq5 =>
  cond (decide (rq2.1 ≠ rq5.1))
  (some (([x5, y6, z7], true, ()), (())))
  (rec p1 n4 x5 y6 (IntKind.i64.wrap (z7 + (1 : Int)))))
  (k p1 n4 x5 y6)
def zz72_a9 (rec : Y2 → Int → Int → Int → Option ((Y4 × (Bool × Unit)) × Unit)) (p1 : Y2) (n4 : Int) (x5 : Int) (y6 : Int) : Option ((Y4 × (Bool × Unit)) × Unit) :=
  rec p1 n4 x5 (IntKind.i64.wrap (y6 + (1 : Int)))
def zz72_b6 (L9 : Y2 → Int → Int → Int → Int → Option ((Y4 × (Bool × Unit)) × Unit)) (k : Y2 → Int → Int → Option ((Y4 × (Bool × Unit)) × Unit)) (p1 : Y2) (n4 : Int) (x5 : Int) (y6 : Int) : Option ((Y4 × (Bool × Unit)) × Unit) :=
  cond (decide (y6 < n4))
  (L9 p1 n4 x5 y6 (0 : Int))
  (k p1 n4 x5)
def zz72_a6 (rec : Y2 → Int → Int → Option ((Y4 × (Bool × Unit)) × Unit)) (p1 : Y2) (n4 : Int) (x5 : Int) : Option ((Y4 × (Bool × Unit)) × Unit) :=
  rec p1 n4 (IntKind.i64.wrap (x5 + (1 : Int)))
def zz72_b3 (L6 : Y2 → Int → Int → Int → Option ((Y4 × (Bool × Unit)) × Unit)) (k : Option ((Y4 × (Bool × Unit)) × Unit)) (p1 : Y2) (n4 : Int) (x5 : Int) : Option ((Y4 × (Bool × Unit)) × Unit) :=
  cond (decide (x5 < n4))
  (L6 p1 n4 x5 (0 : Int))
  (k)
def zz72_a3 : Option ((Y4 × (Bool × Unit)) × Unit) :=
  some (([], false, ()), (()))
def zz72_s (L3 : Y2 → Int → Int → Option ((Y4 × (Bool × Unit)) × Unit)) (p_0 : Y2) : Option ((Y4 × (Bool × Unit)) × Unit) :=
  L3 p_0 (p_0.1.length : Int) (0 : Int)
def zz72_l9 (N : Nat) (k : Y2 → Int → Int → Int → Option ((Y4 × (Bool × Unit)) × Unit)) : Nat → Y2 → Int → Int → Int → Int → Option ((Y4 × (Bool × Unit)) × Unit)
  | 0, _, _, _, _, _ => none
  | m + 1, p1, n4, x5, y6, z7 => zz72_b9 (zz72_l9 N k m) k p1 n4 x5 y6 z7
def zz72_F9 (N : Nat) (rec : Y2 → Int → Int → Int → Option ((Y4 × (Bool × Unit)) × Unit)) (k : Y2 → Int → Int → Option ((Y4 × (Bool × Unit)) × Unit)) (p1 : Y2) (n4 : Int) (x5 : Int) (y6 : Int) (z7 : Int) : Option ((Y4 × (Bool × Unit)) × Unit) := zz72_l9 N (zz72_a9 rec) N p1 n4 x5 y6 z7
def zz72_l6 (N : Nat) (k : Y2 → Int → Int → Option ((Y4 × (Bool × Unit)) × Unit)) : Nat → Y2 → Int → Int → Int → Option ((Y4 × (Bool × Unit)) × Unit)
  | 0, _, _, _, _ => none
  | m + 1, p1, n4, x5, y6 => zz72_b6 (zz72_F9 N (zz72_l6 N k m) k) k p1 n4 x5 y6
def zz72_F6 (N : Nat) (rec : Y2 → Int → Int → Option ((Y4 × (Bool × Unit)) × Unit)) (k : Option ((Y4 × (Bool × Unit)) × Unit)) (p1 : Y2) (n4 : Int) (x5 : Int) (y6 : Int) : Option ((Y4 × (Bool × Unit)) × Unit) := zz72_l6 N (zz72_a6 rec) N p1 n4 x5 y6
def zz72_l3 (N : Nat) (k : Option ((Y4 × (Bool × Unit)) × Unit)) : Nat → Y2 → Int → Int → Option ((Y4 × (Bool × Unit)) × Unit)
  | 0, _, _, _ => none
  | m + 1, p1, n4, x5 => zz72_b3 (zz72_F6 N (zz72_l3 N k m) k) k p1 n4 x5
def zz72_F3 (N : Nat) (p1 : Y2) (n4 : Int) (x5 : Int) : Option ((Y4 × (Bool × Unit)) × Unit) := zz72_l3 N (zz72_a3) N p1 n4 x5
def zz72 (N : Nat) (p_0 : Y2) : Option ((Y4 × (Bool × Unit)) × Unit) := zz72_s (zz72_F3 N) p_0
def S_zz72 : Sig := { a := (.pair (.pair (.sl (.sl I)) .unit) .unit), md := [0], mf := [], m := .unit, r := (.tup (.pair (.sl I) (.pair .bool .unit))), rf := (.p (.o .i) .i), f := fun x => zz72 big x.1 }
def A_zz72 : Cfg := mkCfg tab [(124, S_zz70), (83, S_zz71)] [(6, [.drop, .as (.ptr (.pair (.sl (.sl I)) .unit)) (.o .i), .drop, .drop, .as I .i, .as I .i]), (12, [.drop, .as (.ptr (.pair (.sl (.sl I)) .unit)) (.o .i), .drop, .drop, .as I .i, .as I .i, .as I .i]), (27, []), (18, [.drop, .as (.ptr (.pair (.sl (.sl I)) .unit)) (.o .i), .drop, .drop, .as I .i, .as I .i, .as I .i, .as I .i]), (9, [.drop, .as (.ptr (.pair (.sl (.sl I)) .unit)) (.o .i), .drop, .drop, .as I .i, .as I .i]), (15, [.drop, .as (.ptr (.pair (.sl (.sl I)) .unit)) (.o .i), .drop, .drop, .as I .i, .as I .i, .as I .i])]
noncomputable def zz72_R3 (N n : Nat) (K : Ex → St → Option ((Y4 × (Bool × Unit)) × Unit)) (p1 : Y2) (n4 : Int) (x5 : Int) : Option ((Y4 × (Bool × Unit)) × Unit) := iter ((A_zz72).shape 6) (run (A_zz72) N (codeAt Try.f120 [1, 1, 0, 1, 0, 0])) n ([.u, .val (.ptr (.pair (.sl (.sl I)) .unit)) (.o .i) p1, .u, .u, .val I .i n4, .val I .i x5] ++ List.replicate 43 .u) K
noncomputable def zz72_R6 (N n : Nat) (K : Ex → St → Option ((Y4 × (Bool × Unit)) × Unit)) (p1 : Y2) (n4 : Int) (x5 : Int) (y6 : Int) : Option ((Y4 × (Bool × Unit)) × Unit) := iter ((A_zz72).shape 12) (run (A_zz72) N (codeAt Try.f120 [1, 1, 0, 1, 0, 0, 1, 0, 0, 1, 0, 0])) n ([.u, .val (.ptr (.pair (.sl (.sl I)) .unit)) (.o .i) p1, .u, .u, .val I .i n4, .val I .i x5, .val I .i y6] ++ List.replicate 42 .u) K
noncomputable def zz72_R9 (N n : Nat) (K : Ex → St → Option ((Y4 × (Bool × Unit)) × Unit)) (p1 : Y2) (n4 : Int) (x5 : Int) (y6 : Int) (z7 : Int) : Option ((Y4 × (Bool × Unit)) × Unit) := iter ((A_zz72).shape 18) (run (A_zz72) N (codeAt Try.f120 [1, 1, 0, 1, 0, 0, 1, 0, 0, 1, 0, 0, 1, 0, 0, 1, 0, 0])) n ([.u, .val (.ptr (.pair (.sl (.sl I)) .unit)) (.o .i) p1, .u, .u, .val I .i n4, .val I .i x5, .val I .i y6, .val I .i z7] ++ List.replicate 41 .u) K
noncomputable abbrev zz72_z : Ex → St → Option ((Y4 × (Bool × Unit)) × Unit) := finish (A_zz72) S_zz72 Try.f120.results.toList
noncomputable abbrev zz72_X3 (kX : St → Option ((Y4 × (Bool × Unit)) × Unit)) : Option ((Y4 × (Bool × Unit)) × Unit) := kX ([] ++ List.replicate 49 .u)
noncomputable abbrev zz72_E3 (kX : St → Option ((Y4 × (Bool × Unit)) × Unit)) (kO : Nat → St → Option ((Y4 × (Bool × Unit)) × Unit)) : Ex → St → Option ((Y4 × (Bool × Unit)) × Unit) := exK zz72_z 0 ((A_zz72).shape 27) kX kO
noncomputable abbrev zz72_X6 (kX : St → Option ((Y4 × (Bool × Unit)) × Unit)) : Y2 → Int → Int → Option ((Y4 × (Bool × Unit)) × Unit) := fun (p1 : Y2) (n4 : Int) (x5 : Int) => kX ([.u, .val (.ptr (.pair (.sl (.sl I)) .unit)) (.o .i) p1, .u, .u, .val I .i n4, .val I .i x5] ++ List.replicate 43 .u)
noncomputable abbrev zz72_E6 (kX : St → Option ((Y4 × (Bool × Unit)) × Unit)) (kO : Nat → St → Option ((Y4 × (Bool × Unit)) × Unit)) : Ex → St → Option ((Y4 × (Bool × Unit)) × Unit) := exK zz72_z 2 ((A_zz72).shape 9) kX kO
noncomputable abbrev zz72_X9 (kX : St → Option ((Y4 × (Bool × Unit)) × Unit)) : Y2 → Int → Int → Int → Option ((Y4 × (Bool × Unit)) × Unit) := fun (p1 : Y2) (n4 : Int) (x5 : Int) (y6 : Int) => kX ([.u, .val (.ptr (.pair (.sl (.sl I)) .unit)) (.o .i) p1, .u, .u, .val I .i n4, .val I .i x5, .val I .i y6] ++ List.replicate 42 .u)
noncomputable abbrev zz72_E9 (kX : St → Option ((Y4 × (Bool × Unit)) × Unit)) (kO : Nat → St → Option ((Y4 × (Bool × Unit)) × Unit)) : Ex → St → Option ((Y4 × (Bool × Unit)) × Unit) := exK zz72_z 4 ((A_zz72).shape 15) kX kO
theorem zz72_step9 (N : Nat) (m : Nat) (kX : St → Option ((Y4 × (Bool × Unit)) × Unit)) (kO : Nat → St → Option ((Y4 × (Bool × Unit)) × Unit)) (p1 : Y2) (n4 : Int) (x5 : Int) (y6 : Int) (z7 : Int) : zz72_R9 N (m + 1) (zz72_E9 kX kO) p1 n4 x5 y6 z7 = zz72_b9 (zz72_R9 N m (zz72_E9 kX kO)) (zz72_X9 kX) p1 n4 x5 y6 z7 := by kernel_rfl
theorem zz72_iter9 (N : Nat) (kX : St → Option ((Y4 × (Bool × Unit)) × Unit)) (kO : Nat → St → Option ((Y4 × (Bool × Unit)) × Unit)) : ∀ (n : Nat) (p1 : Y2) (n4 : Int) (x5 : Int) (y6 : Int) (z7 : Int), zz72_R9 N n (zz72_E9 kX kO) p1 n4 x5 y6 z7 = zz72_l9 N (zz72_X9 kX) n p1 n4 x5 y6 z7
  | 0, _, _, _, _, _ => rfl
  | m + 1, p1, n4, x5, y6, z7 => by
    have hrec : zz72_R9 N m (zz72_E9 kX kO) = (zz72_l9 N (zz72_X9 kX) m) := (funext fun p1 => (funext fun n4 => (funext fun x5 => (funext fun y6 => (funext fun z7 => zz72_iter9 N kX kO m p1 n4 x5 y6 z7)))))
    refine (zz72_step9 N m kX kO p1 n4 x5 y6 z7).trans ?_
    rw [hrec]
    rfl
noncomputable abbrev zz72_K9 (N : Nat) (m : Nat) (kX : St → Option ((Y4 × (Bool × Unit)) × Unit)) (kO : Nat → St → Option ((Y4 × (Bool × Unit)) × Unit)) : Ex → St → Option ((Y4 × (Bool × Unit)) × Unit) := (blockK 4 (blockK 3 (seqK ((A_zz72).shape 15) (run (A_zz72) N (codeAt Try.f120 [1, 1, 0, 1, 0, 0, 1, 0, 0, 1, 0, 0, 1, 1])) (iterK ((A_zz72).shape 12) (run (A_zz72) N (codeAt Try.f120 [1, 1, 0, 1, 0, 0, 1, 0, 0, 1, 0, 0])) m (zz72_E6 kX kO)))))
noncomputable abbrev zz72_k9 (N : Nat) (m : Nat) (kX : St → Option ((Y4 × (Bool × Unit)) × Unit)) (kO : Nat → St → Option ((Y4 × (Bool × Unit)) × Unit)) : St → Option ((Y4 × (Bool × Unit)) × Unit) := fun st' => run (A_zz72) N (codeAt Try.f120 [1, 1, 0, 1, 0, 0, 1, 0, 0, 1, 0, 0, 1, 1]) st' (iterK ((A_zz72).shape 12) (run (A_zz72) N (codeAt Try.f120 [1, 1, 0, 1, 0, 0, 1, 0, 0, 1, 0, 0])) m (zz72_E6 kX kO))
theorem zz72_after9 (N : Nat) (m : Nat) (kX : St → Option ((Y4 × (Bool × Unit)) × Unit)) (kO : Nat → St → Option ((Y4 × (Bool × Unit)) × Unit)) (p1 : Y2) (n4 : Int) (x5 : Int) (y6 : Int) : zz72_X9 (zz72_k9 N m kX kO) p1 n4 x5 y6 = zz72_a9 (zz72_R6 N m (zz72_E6 kX kO)) p1 n4 x5 y6 := by kernel_rfl
theorem zz72_in9 (N : Nat) (m : Nat) (kX : St → Option ((Y4 × (Bool × Unit)) × Unit)) (kO : Nat → St → Option ((Y4 × (Bool × Unit)) × Unit)) (recF : Y2 → Int → Int → Int → Option ((Y4 × (Bool × Unit)) × Unit)) (hrec : zz72_R6 N m (zz72_E6 kX kO) = recF) (p1 : Y2) (n4 : Int) (x5 : Int) (y6 : Int) (z7 : Int) : zz72_R9 N N (zz72_K9 N m kX kO) p1 n4 x5 y6 z7 = zz72_F9 N recF (zz72_X6 kX) p1 n4 x5 y6 z7 :=
  have h : zz72_X9 (zz72_k9 N m kX kO) = (zz72_a9 recF) := (funext fun p1 => (funext fun n4 => (funext fun x5 => (funext fun y6 => (zz72_after9 N m kX kO p1 n4 x5 y6).trans (by rw [hrec])))))
  ((iter_ex (fun st => by kernel_rfl) (fun st => by kernel_rfl)).trans (zz72_iter9 N (zz72_k9 N m kX kO) (fun j st => (zz72_K9 N m kX kO) (.exit j) st) N p1 n4 x5 y6 z7)).trans (congrArg (fun k => zz72_l9 N k N p1 n4 x5 y6 z7) h)
theorem zz72_step6 (N : Nat) (m : Nat) (kX : St → Option ((Y4 × (Bool × Unit)) × Unit)) (kO : Nat → St → Option ((Y4 × (Bool × Unit)) × Unit)) (p1 : Y2) (n4 : Int) (x5 : Int) (y6 : Int) : zz72_R6 N (m + 1) (zz72_E6 kX kO) p1 n4 x5 y6 = zz72_b6 (zz72_R9 N N (zz72_K9 N m kX kO)) (zz72_X6 kX) p1 n4 x5 y6 := by kernel_rfl
theorem zz72_iter6 (N : Nat) (kX : St → Option ((Y4 × (Bool × Unit)) × Unit)) (kO : Nat → St → Option ((Y4 × (Bool × Unit)) × Unit)) : ∀ (n : Nat) (p1 : Y2) (n4 : Int) (x5 : Int) (y6 : Int), zz72_R6 N n (zz72_E6 kX kO) p1 n4 x5 y6 = zz72_l6 N (zz72_X6 kX) n p1 n4 x5 y6
  | 0, _, _, _, _ => rfl
  | m + 1, p1, n4, x5, y6 => by
    have hrec : zz72_R6 N m (zz72_E6 kX kO) = (zz72_l6 N (zz72_X6 kX) m) := (funext fun p1 => (funext fun n4 => (funext fun x5 => (funext fun y6 => zz72_iter6 N kX kO m p1 n4 x5 y6))))
    refine (zz72_step6 N m kX kO p1 n4 x5 y6).trans ?_
    rw [(funext fun p1 => (funext fun n4 => (funext fun x5 => (funext fun y6 => (funext fun z7 => zz72_in9 N m kX kO (zz72_l6 N (zz72_X6 kX) m) hrec p1 n4 x5 y6 z7)))))]
    rfl
noncomputable abbrev zz72_K6 (N : Nat) (m : Nat) (kX : St → Option ((Y4 × (Bool × Unit)) × Unit)) (kO : Nat → St → Option ((Y4 × (Bool × Unit)) × Unit)) : Ex → St → Option ((Y4 × (Bool × Unit)) × Unit) := (blockK 2 (blockK 1 (seqK ((A_zz72).shape 9) (run (A_zz72) N (codeAt Try.f120 [1, 1, 0, 1, 0, 0, 1, 1])) (iterK ((A_zz72).shape 6) (run (A_zz72) N (codeAt Try.f120 [1, 1, 0, 1, 0, 0])) m (zz72_E3 kX kO)))))
noncomputable abbrev zz72_k6 (N : Nat) (m : Nat) (kX : St → Option ((Y4 × (Bool × Unit)) × Unit)) (kO : Nat → St → Option ((Y4 × (Bool × Unit)) × Unit)) : St → Option ((Y4 × (Bool × Unit)) × Unit) := fun st' => run (A_zz72) N (codeAt Try.f120 [1, 1, 0, 1, 0, 0, 1, 1]) st' (iterK ((A_zz72).shape 6) (run (A_zz72) N (codeAt Try.f120 [1, 1, 0, 1, 0, 0])) m (zz72_E3 kX kO))
theorem zz72_after6 (N : Nat) (m : Nat) (kX : St → Option ((Y4 × (Bool × Unit)) × Unit)) (kO : Nat → St → Option ((Y4 × (Bool × Unit)) × Unit)) (p1 : Y2) (n4 : Int) (x5 : Int) : zz72_X6 (zz72_k6 N m kX kO) p1 n4 x5 = zz72_a6 (zz72_R3 N m (zz72_E3 kX kO)) p1 n4 x5 := by kernel_rfl
theorem zz72_in6 (N : Nat) (m : Nat) (kX : St → Option ((Y4 × (Bool × Unit)) × Unit)) (kO : Nat → St → Option ((Y4 × (Bool × Unit)) × Unit)) (recF : Y2 → Int → Int → Option ((Y4 × (Bool × Unit)) × Unit)) (hrec : zz72_R3 N m (zz72_E3 kX kO) = recF) (p1 : Y2) (n4 : Int) (x5 : Int) (y6 : Int) : zz72_R6 N N (zz72_K6 N m kX kO) p1 n4 x5 y6 = zz72_F6 N recF (zz72_X3 kX) p1 n4 x5 y6 :=
  have h : zz72_X6 (zz72_k6 N m kX kO) = (zz72_a6 recF) := (funext fun p1 => (funext fun n4 => (funext fun x5 => (zz72_after6 N m kX kO p1 n4 x5).trans (by rw [hrec]))))
  ((iter_ex (fun st => by kernel_rfl) (fun st => by kernel_rfl)).trans (zz72_iter6 N (zz72_k6 N m kX kO) (fun j st => (zz72_K6 N m kX kO) (.exit j) st) N p1 n4 x5 y6)).trans (congrArg (fun k => zz72_l6 N k N p1 n4 x5 y6) h)
theorem zz72_step3 (N : Nat) (m : Nat) (kX : St → Option ((Y4 × (Bool × Unit)) × Unit)) (kO : Nat → St → Option ((Y4 × (Bool × Unit)) × Unit)) (p1 : Y2) (n4 : Int) (x5 : Int) : zz72_R3 N (m + 1) (zz72_E3 kX kO) p1 n4 x5 = zz72_b3 (zz72_R6 N N (zz72_K6 N m kX kO)) (zz72_X3 kX) p1 n4 x5 := by kernel_rfl
theorem zz72_iter3 (N : Nat) (kX : St → Option ((Y4 × (Bool × Unit)) × Unit)) (kO : Nat → St → Option ((Y4 × (Bool × Unit)) × Unit)) : ∀ (n : Nat) (p1 : Y2) (n4 : Int) (x5 : Int), zz72_R3 N n (zz72_E3 kX kO) p1 n4 x5 = zz72_l3 N (zz72_X3 kX) n p1 n4 x5
  | 0, _, _, _ => rfl
  | m + 1, p1, n4, x5 => by
    have hrec : zz72_R3 N m (zz72_E3 kX kO) = (zz72_l3 N (zz72_X3 kX) m) := (funext fun p1 => (funext fun n4 => (funext fun x5 => zz72_iter3 N kX kO m p1 n4 x5)))
    refine (zz72_step3 N m kX kO p1 n4 x5).trans ?_
    rw [(funext fun p1 => (funext fun n4 => (funext fun x5 => (funext fun y6 => zz72_in6 N m kX kO (zz72_l3 N (zz72_X3 kX) m) hrec p1 n4 x5 y6))))]
    rfl
noncomputable abbrev zz72_K3 (N : Nat) : Ex → St → Option ((Y4 × (Bool × Unit)) × Unit) := (blockK 0 (seqK ((A_zz72).shape 27) (run (A_zz72) N (codeAt Try.f120 [1, 1, 1])) zz72_z))
noncomputable abbrev zz72_k3 (N : Nat) : St → Option ((Y4 × (Bool × Unit)) × Unit) := fun st' => run (A_zz72) N (codeAt Try.f120 [1, 1, 1]) st' zz72_z
theorem zz72_after3 (N : Nat) : zz72_X3 (zz72_k3 N) = zz72_a3 := by kernel_rfl
theorem zz72_in3 (N : Nat) (p1 : Y2) (n4 : Int) (x5 : Int) : zz72_R3 N N (zz72_K3 N) p1 n4 x5 = zz72_F3 N p1 n4 x5 :=
  have h : zz72_X3 (zz72_k3 N) = (zz72_a3) := zz72_after3 N
  ((iter_ex (fun st => by kernel_rfl) (fun st => by kernel_rfl)).trans (zz72_iter3 N (zz72_k3 N) (fun j st => (zz72_K3 N) (.exit j) st) N p1 n4 x5)).trans (congrArg (fun k => zz72_l3 N k N p1 n4 x5) h)
theorem run0_zz72 (N : Nat) (x : (S_zz72).a.den) : runF (A_zz72) N Try.f120 S_zz72 x = (zz72_s (zz72_R3 N N (zz72_K3 N)) x.1) := by kernel_rfl
theorem run_zz72 (N : Nat) (x : (S_zz72).a.den) : runF (A_zz72) N Try.f120 S_zz72 x = zz72 N x.1 := by
  refine (run0_zz72 N x).trans ?_
  rw [(funext fun p1 => (funext fun n4 => (funext fun x5 => zz72_in3 N p1 n4 x5)))]
  rfl
theorem fn_zz72 : FnOk Try.prog 120 := ⟨_, Try.func120, by kernel_rfl, by kernel_rfl⟩
theorem good_zz72 : Gx.Good Try.prog 120 S_zz72 := good_of_run Try.func120 (of_decide_eq_true (by kernel_rfl)) fun x r h => ⟨A_zz72, big, mkCfg_ok tabOk, mkCfg_sigs (show SigsOk Try.prog [(124, S_zz70), (83, S_zz71)] from ⟨⟨fn_zz70, good_zz70⟩, ⟨fn_zz71, good_zz71⟩, trivial⟩), (run_zz72 big x).trans h⟩

/-! zz73 -/
def zz73_s (p_0 : Y2) : Option (Bool × Unit) :=
  (zz14 big p_0).bind fun rq1 =>
  cond (!rq1.1)
  (some (false, (())))
  ((zz72 big p_0).bind fun rq2 =>
  some (!((((), rq2.1.2).2).1), (())))
def zz73 (p_0 : Y2) : Option (Bool × Unit) := zz73_s p_0
def S_zz73 : Sig := { a := (.pair (.pair (.sl (.sl I)) .unit) .unit), md := [0], mf := [], m := .unit, r := .bool, rf := .i, f := fun x => zz73 x.1 }
def A_zz73 : Cfg := mkCfg tab [(89, S_zz14), (120, S_zz72)] []
theorem run_zz73 (N : Nat) (x : (S_zz73).a.den) : runF (A_zz73) N Try.f79 S_zz73 x = zz73 x.1 := by kernel_rfl
theorem fn_zz73 : FnOk Try.prog 79 := ⟨_, Try.func79, by kernel_rfl, by kernel_rfl⟩
theorem good_zz73 : Gx.Good Try.prog 79 S_zz73 := good_of_run Try.func79 (of_decide_eq_true (by kernel_rfl)) fun x r h => ⟨A_zz73, big, mkCfg_ok tabOk, mkCfg_sigs (show SigsOk Try.prog [(89, S_zz14), (120, S_zz72)] from ⟨⟨fn_zz14, good_zz14⟩, ⟨fn_zz72, good_zz72⟩, trivial⟩), (run_zz73 big x).trans h⟩

/-! zz74 -/
def zz74_s (p_0 : Y2) : Option (Int × Unit) :=
  (zz12 big p_0).bind fun rq1 =>
  (zz13 big rq1.1 []).bind fun rq2 =>
  some (rq2.1, (()))
def zz74 (p_0 : Y2) : Option (Int × Unit) := zz74_s p_0
def S_zz74 : Sig := { a := (.pair (.pair (.sl (.sl I)) .unit) .unit), md := [0], mf := [], m := .unit, r := I, rf := .i, f := fun x => zz74 x.1 }
def A_zz74 : Cfg := mkCfg tab [(97, S_zz12), (98, S_zz13)] []
theorem run_zz74 (N : Nat) (x : (S_zz74).a.den) : runF (A_zz74) N Try.f122 S_zz74 x = zz74 x.1 := by kernel_rfl
theorem fn_zz74 : FnOk Try.prog 122 := ⟨_, Try.func122, by kernel_rfl, by kernel_rfl⟩
theorem good_zz74 : Gx.Good Try.prog 122 S_zz74 := good_of_run Try.func122 (of_decide_eq_true (by kernel_rfl)) fun x r h => ⟨A_zz74, big, mkCfg_ok tabOk, mkCfg_sigs (show SigsOk Try.prog [(97, S_zz12), (98, S_zz13)] from ⟨⟨fn_zz12, good_zz12⟩, ⟨fn_zz13, good_zz13⟩, trivial⟩), (run_zz74 big x).trans h⟩

/-! zz75 -/
def zz75_s (p_0 : Y2) : Option (Int × Unit) :=
  (zz13 big p_0 []).bind fun rq1 =>
  some (rq1.1, (()))
def zz75 (p_0 : Y2) : Option (Int × Unit) := zz75_s p_0
def S_zz75 : Sig := { a := (.pair (.pair (.sl (.sl I)) .unit) .unit), md := [0], mf := [], m := .unit, r := I, rf := .i, f := fun x => zz75 x.1 }
def A_zz75 : Cfg := mkCfg tab [(98, S_zz13)] []
theorem run_zz75 (N : Nat) (x : (S_zz75).a.den) : runF (A_zz75) N Try.f123 S_zz75 x = zz75 x.1 := by kernel_rfl
theorem fn_zz75 : FnOk Try.prog 123 := ⟨_, Try.func123, by kernel_rfl, by kernel_rfl⟩
theorem good_zz75 : Gx.Good Try.prog 123 S_zz75 := good_of_run Try.func123 (of_decide_eq_true (by kernel_rfl)) fun x r h => ⟨A_zz75, big, mkCfg_ok tabOk, mkCfg_sigs (show SigsOk Try.prog [(98, S_zz13)] from ⟨⟨fn_zz13, good_zz13⟩, trivial⟩), (run_zz75 big x).trans h⟩

/-! zz76 -/
def zz76_b3 (rec : Int → Int → Int → Y2 → Y4 → Int → Option (Y4 × Unit)) (k : Y4 → Option (Y4 × Unit)) (x1 : Int) (y2 : Int) (z3 : Int) (p4 : Y2) (out9 : Y4) (w10 : Int) : Option (Y4 × Unit) :=
  cond (decide (w10 < (p4.1.length : Int)))
  ((zz71 p4 y2 w10).bind fun rq1 =>
  cond (decide (rq1.1 = x1))
  ((zz70 p4 y2 w10).bind fun rq2 =>
  cond (decide (rq2.1 = z3))
  ((appI out9 [w10]).bind fun xq3 =>
  rec x1 y2 z3 p4 xq3 (IntKind.i64.wrap (w10 + (1 : Int))))
  (rec x1 y2 z3 p4 out9 (IntKind.i64.wrap (w10 + (1 : Int)))))
  (rec x1 y2 z3 p4 out9 (IntKind.i64.wrap (w10 + (1 : Int)))))
  (k out9)
def zz76_a3 (out9 : Y4) : Option (Y4 × Unit) :=
  some (out9, (()))
def zz76_s (L3 : Int → Int → Int → Y2 → Y4 → Int → Option (Y4 × Unit)) (p_0 : Y2) (x_1 : Int) (y_2 : Int) (z_3 : Int) : Option (Y4 × Unit) :=
  L3 x_1 y_2 z_3 p_0 [] (0 : Int)
def zz76_l3 (N : Nat) (k : Y4 → Option (Y4 × Unit)) : Nat → Int → Int → Int → Y2 → Y4 → Int → Option (Y4 × Unit)
  | 0, _, _, _, _, _, _ => none
  | m + 1, x1, y2, z3, p4, out9, w10 => zz76_b3 (zz76_l3 N k m) k x1 y2 z3 p4 out9 w10
def zz76_F3 (N : Nat) (x1 : Int) (y2 : Int) (z3 : Int) (p4 : Y2) (out9 : Y4) (w10 : Int) : Option (Y4 × Unit) := zz76_l3 N (zz76_a3) N x1 y2 z3 p4 out9 w10
def zz76 (N : Nat) (p_0 : Y2) (x_1 : Int) (y_2 : Int) (z_3 : Int) : Option (Y4 × Unit) := zz76_s (zz76_F3 N) p_0 x_1 y_2 z_3
def S_zz76 : Sig := { a := (.pair (.pair (.sl (.sl I)) .unit) (.pair I (.pair I (.pair I .unit)))), md := [0, 0, 0, 0], mf := [], m := .unit, r := (.sl I), rf := (.o .i), f := fun x => zz76 big x.1 x.2.1 x.2.2.1 x.2.2.2.1 }
def A_zz76 : Cfg := mkCfg tab [(83, S_zz71), (124, S_zz70)] [(6, [.drop, .as I .i, .as I .i, .as I .i, .as (.ptr (.pair (.sl (.sl I)) .unit)) (.o .i), .drop, .drop, .drop, .drop, .as (.sl I) (.o .i), .as I .i]), (15, [.drop, .drop, .drop, .drop, .drop, .drop, .drop, .drop, .drop, .as (.sl I) (.o .i)])]
noncomputable def zz76_R3 (N n : Nat) (K : Ex → St → Option (Y4 × Unit)) (x1 : Int) (y2 : Int) (z3 : Int) (p4 : Y2) (out9 : Y4) (w10 : Int) : Option (Y4 × Unit) := iter ((A_zz76).shape 6) (run (A_zz76) N (codeAt Try.f121 [1, 1, 0, 1, 0, 0])) n ([.u, .val I .i x1, .val I .i y2, .val I .i z3, .val (.ptr (.pair (.sl (.sl I)) .unit)) (.o .i) p4, .u, .u, .u, .u, .val (.sl I) (.o .i) out9, .val I .i w10] ++ List.replicate 27 .u) K
noncomputable abbrev zz76_z : Ex → St → Option (Y4 × Unit) := finish (A_zz76) S_zz76 Try.f121.results.toList
noncomputable abbrev zz76_X3 (kX : St → Option (Y4 × Unit)) : Y4 → Option (Y4 × Unit) := fun (out9 : Y4) => kX ([.u, .u, .u, .u, .u, .u, .u, .u, .u, .val (.sl I) (.o .i) out9] ++ List.replicate 28 .u)
noncomputable abbrev zz76_E3 (kX : St → Option (Y4 × Unit)) (kO : Nat → St → Option (Y4 × Unit)) : Ex → St → Option (Y4 × Unit) := exK zz76_z 0 ((A_zz76).shape 15) kX kO
theorem zz76_step3 (N : Nat) (m : Nat) (kX : St → Option (Y4 × Unit)) (kO : Nat → St → Option (Y4 × Unit)) (x1 : Int) (y2 : Int) (z3 : Int) (p4 : Y2) (out9 : Y4) (w10 : Int) : zz76_R3 N (m + 1) (zz76_E3 kX kO) x1 y2 z3 p4 out9 w10 = zz76_b3 (zz76_R3 N m (zz76_E3 kX kO)) (zz76_X3 kX) x1 y2 z3 p4 out9 w10 := by kernel_rfl
theorem zz76_iter3 (N : Nat) (kX : St → Option (Y4 × Unit)) (kO : Nat → St → Option (Y4 × Unit)) : ∀ (n : Nat) (x1 : Int) (y2 : Int) (z3 : Int) (p4 : Y2) (out9 : Y4) (w10 : Int), zz76_R3 N n (zz76_E3 kX kO) x1 y2 z3 p4 out9 w10 = zz76_l3 N (zz76_X3 kX) n x1 y2 z3 p4 out9 w10
  | 0, _, _, _, _, _, _ => rfl
  | m + 1, x1, y2, z3, p4, out9, w10 => by
    have hrec : zz76_R3 N m (zz76_E3 kX kO) = (zz76_l3 N (zz76_X3 kX) m) := (funext fun x1 => (funext fun y2 => (funext fun z3 => (funext fun p4 => (funext fun out9 => (funext fun w10 => zz76_iter3 N kX kO m x1 y2 z3 p4 out9 w10))))))
    refine (zz76_step3 N m kX kO x1 y2 z3 p4 out9 w10).trans ?_
    rw [hrec]
    rfl
noncomputable abbrev zz76_K3 (N : Nat) : Ex → St → Option (Y4 × Unit) := (blockK 0 (seqK ((A_zz76).shape 15) (run (A_zz76) N (codeAt Try.f121 [1, 1, 1])) zz76_z))
noncomputable abbrev zz76_k3 (N : Nat) : St → Option (Y4 × Unit) := fun st' => run (A_zz76) N (codeAt Try.f121 [1, 1, 1]) st' zz76_z
theorem zz76_after3 (N : Nat) (out9 : Y4) : zz76_X3 (zz76_k3 N) out9 = zz76_a3 out9 := by kernel_rfl
theorem zz76_in3 (N : Nat) (x1 : Int) (y2 : Int) (z3 : Int) (p4 : Y2) (out9 : Y4) (w10 : Int) : zz76_R3 N N (zz76_K3 N) x1 y2 z3 p4 out9 w10 = zz76_F3 N x1 y2 z3 p4 out9 w10 :=
  have h : zz76_X3 (zz76_k3 N) = (zz76_a3) := (funext fun out9 => zz76_after3 N out9)
  ((iter_ex (fun st => by kernel_rfl) (fun st => by kernel_rfl)).trans (zz76_iter3 N (zz76_k3 N) (fun j st => (zz76_K3 N) (.exit j) st) N x1 y2 z3 p4 out9 w10)).trans (congrArg (fun k => zz76_l3 N k N x1 y2 z3 p4 out9 w10) h)
theorem run0_zz76 (N : Nat) (x : (S_zz76).a.den) : runF (A_zz76) N Try.f121 S_zz76 x = (zz76_s (zz76_R3 N N (zz76_K3 N)) x.1 x.2.1 x.2.2.1 x.2.2.2.1) := by kernel_rfl
theorem run_zz76 (N : Nat) (x : (S_zz76).a.den) : runF (A_zz76) N Try.f121 S_zz76 x = zz76 N x.1 x.2.1 x.2.2.1 x.2.2.2.1 := by
  refine (run0_zz76 N x).trans ?_
  rw [(funext fun x1 => (funext fun y2 => (funext fun z3 => (funext fun p4 => (funext fun out9 => (funext fun w10 => zz76_in3 N x1 y2 z3 p4 out9 w10))))))]
  rfl
theorem fn_zz76 : FnOk Try.prog 121 := ⟨_, Try.func121, by kernel_rfl, by kernel_rfl⟩
theorem good_zz76 : Gx.Good Try.prog 121 S_zz76 := good_of_run Try.func121 (of_decide_eq_true (by kernel_rfl)) fun x r h => ⟨A_zz76, big, mkCfg_ok tabOk, mkCfg_sigs (show SigsOk Try.prog [(83, S_zz71), (124, S_zz70)] from ⟨⟨fn_zz71, good_zz71⟩, ⟨fn_zz70, good_zz70⟩, trivial⟩), (run_zz76 big x).trans h⟩

/-! zz77 -/
def zz77_b3 (rec : Y2 → Y4 → Int → Option (Y4 × Unit)) (k : Y4 → Option (Y4 × Unit)) (p1 : Y2) (out3 : Y4) (x4 : Int) : Option (Y4 × Unit) :=
  cond (decide (x4 < (p1.1.length : Int)))
  ((zz74 p1).bind fun rq1 =>
  (zz75 p1).bind fun rq2 =>
  (zz76 big p1 rq1.1 x4 rq2.1).bind fun rq3 =>
  (appI out3 [(rq3.1.length : Int)]).bind fun xq4 =>
  rec p1 xq4 (IntKind.i64.wrap (x4 + (1 : Int))))
  (k out3)
def zz77_a3 (out3 : Y4) : Option (Y4 × Unit) :=
  some (out3, (()))
def zz77_s (L3 : Y2 → Y4 → Int → Option (Y4 × Unit)) (p_0 : Y2) : Option (Y4 × Unit) :=
  L3 p_0 [] (0 : Int)
def zz77_l3 (N : Nat) (k : Y4 → Option (Y4 × Unit)) : Nat → Y2 → Y4 → Int → Option (Y4 × Unit)
  | 0, _, _, _ => none
  | m + 1, p1, out3, x4 => zz77_b3 (zz77_l3 N k m) k p1 out3 x4
def zz77_F3 (N : Nat) (p1 : Y2) (out3 : Y4) (x4 : Int) : Option (Y4 × Unit) := zz77_l3 N (zz77_a3) N p1 out3 x4
def zz77 (N : Nat) (p_0 : Y2) : Option (Y4 × Unit) := zz77_s (zz77_F3 N) p_0
def S_zz77 : Sig := { a := (.pair (.pair (.sl (.sl I)) .unit) .unit), md := [0], mf := [], m := .unit, r := (.sl I), rf := (.o .i), f := fun x => zz77 big x.1 }
def A_zz77 : Cfg := mkCfg tab [(122, S_zz74), (123, S_zz75), (121, S_zz76)] [(6, [.drop, .as (.ptr (.pair (.sl (.sl I)) .unit)) (.o .i), .drop, .as (.sl I) (.o .i), .as I .i]), (13, [.drop, .drop, .drop, .as (.sl I) (.o .i)])]
noncomputable def zz77_R3 (N n : Nat) (K : Ex → St → Option (Y4 × Unit)) (p1 : Y2) (out3 : Y4) (x4 : Int) : Option (Y4 × Unit) := iter ((A_zz77).shape 6) (run (A_zz77) N (codeAt Try.f80 [1, 1, 0, 1, 0, 0])) n ([.u, .val (.ptr (.pair (.sl (.sl I)) .unit)) (.o .i) p1, .u, .val (.sl I) (.o .i) out3, .val I .i x4] ++ List.replicate 20 .u) K
noncomputable abbrev zz77_z : Ex → St → Option (Y4 × Unit) := finish (A_zz77) S_zz77 Try.f80.results.toList
noncomputable abbrev zz77_X3 (kX : St → Option (Y4 × Unit)) : Y4 → Option (Y4 × Unit) := fun (out3 : Y4) => kX ([.u, .u, .u, .val (.sl I) (.o .i) out3] ++ List.replicate 21 .u)
noncomputable abbrev zz77_E3 (kX : St → Option (Y4 × Unit)) (kO : Nat → St → Option (Y4 × Unit)) : Ex → St → Option (Y4 × Unit) := exK zz77_z 0 ((A_zz77).shape 13) kX kO
theorem zz77_step3 (N : Nat) (m : Nat) (kX : St → Option (Y4 × Unit)) (kO : Nat → St → Option (Y4 × Unit)) (p1 : Y2) (out3 : Y4) (x4 : Int) : zz77_R3 N (m + 1) (zz77_E3 kX kO) p1 out3 x4 = zz77_b3 (zz77_R3 N m (zz77_E3 kX kO)) (zz77_X3 kX) p1 out3 x4 := by kernel_rfl
theorem zz77_iter3 (N : Nat) (kX : St → Option (Y4 × Unit)) (kO : Nat → St → Option (Y4 × Unit)) : ∀ (n : Nat) (p1 : Y2) (out3 : Y4) (x4 : Int), zz77_R3 N n (zz77_E3 kX kO) p1 out3 x4 = zz77_l3 N (zz77_X3 kX) n p1 out3 x4
  | 0, _, _, _ => rfl
  | m + 1, p1, out3, x4 => by
    have hrec : zz77_R3 N m (zz77_E3 kX kO) = (zz77_l3 N (zz77_X3 kX) m) := (funext fun p1 => (funext fun out3 => (funext fun x4 => zz77_iter3 N kX kO m p1 out3 x4)))
    refine (zz77_step3 N m kX kO p1 out3 x4).trans ?_
    rw [hrec]
    rfl
noncomputable abbrev zz77_K3 (N : Nat) : Ex → St → Option (Y4 × Unit) := (blockK 0 (seqK ((A_zz77).shape 13) (run (A_zz77) N (codeAt Try.f80 [1, 1, 1])) zz77_z))
noncomputable abbrev zz77_k3 (N : Nat) : St → Option (Y4 × Unit) := fun st' => run (A_zz77) N (codeAt Try.f80 [1, 1, 1]) st' zz77_z
theorem zz77_after3 (N : Nat) (out3 : Y4) : zz77_X3 (zz77_k3 N) out3 = zz77_a3 out3 := by kernel_rfl
theorem zz77_in3 (N : Nat) (p1 : Y2) (out3 : Y4) (x4 : Int) : zz77_R3 N N (zz77_K3 N) p1 out3 x4 = zz77_F3 N p1 out3 x4 :=
  have h : zz77_X3 (zz77_k3 N) = (zz77_a3) := (funext fun out3 => zz77_after3 N out3)
  ((iter_ex (fun st => by kernel_rfl) (fun st => by kernel_rfl)).trans (zz77_iter3 N (zz77_k3 N) (fun j st => (zz77_K3 N) (.exit j) st) N p1 out3 x4)).trans (congrArg (fun k => zz77_l3 N k N p1 out3 x4) h)
theorem run0_zz77 (N : Nat) (x : (S_zz77).a.den) : runF (A_zz77) N Try.f80 S_zz77 x = (zz77_s (zz77_R3 N N (zz77_K3 N)) x.1) := by kernel_rfl
theorem run_zz77 (N : Nat) (x : (S_zz77).a.den) : runF (A_zz77) N Try.f80 S_zz77 x = zz77 N x.1 := by
  refine (run0_zz77 N x).trans ?_
  rw [(funext fun p1 => (funext fun out3 => (funext fun x4 => zz77_in3 N p1 out3 x4)))]
  rfl
theorem fn_zz77 : FnOk Try.prog 80 := ⟨_, Try.func80, by kernel_rfl, by kernel_rfl⟩
theorem good_zz77 : Gx.Good Try.prog 80 S_zz77 := good_of_run Try.func80 (of_decide_eq_true (by kernel_rfl)) fun x r h => ⟨A_zz77, big, mkCfg_ok tabOk, mkCfg_sigs (show SigsOk Try.prog [(122, S_zz74), (123, S_zz75), (121, S_zz76)] from ⟨⟨fn_zz74, good_zz74⟩, ⟨fn_zz75, good_zz75⟩, ⟨fn_zz76, good_zz76⟩, trivial⟩), (run_zz77 big x).trans h⟩

/-! zz78 -/
def zz78_s (p_0 : Y2) : Option (Bool × Unit) :=
  (zz73 p_0).bind fun rq1 =>
  cond rq1.1
  ((zz77 big p_0).bind fun rq2 =>
  (zz8 big rq2.1 (0 : Int)).bind fun rq3 =>
  some (!rq3.1, (())))
  (some (false, (())))
def zz78 (p_0 : Y2) : Option (Bool × Unit) := zz78_s p_0
def S_zz78 : Sig := { a := (.pair (.pair (.sl (.sl I)) .unit) .unit), md := [0], mf := [], m := .unit, r := .bool, rf := .i, f := fun x => zz78 x.1 }
def A_zz78 : Cfg := mkCfg tab [(79, S_zz73), (80, S_zz77), (49, S_zz8)] []
theorem run_zz78 (N : Nat) (x : (S_zz78).a.den) : runF (A_zz78) N Try.f37 S_zz78 x = zz78 x.1 := by kernel_rfl
theorem fn_zz78 : FnOk Try.prog 37 := ⟨_, Try.func37, by kernel_rfl, by kernel_rfl⟩
theorem good_zz78 : Gx.Good Try.prog 37 S_zz78 := good_of_run Try.func37 (of_decide_eq_true (by kernel_rfl)) fun x r h => ⟨A_zz78, big, mkCfg_ok tabOk, mkCfg_sigs (show SigsOk Try.prog [(79, S_zz73), (80, S_zz77), (49, S_zz8)] from ⟨⟨fn_zz73, good_zz73⟩, ⟨fn_zz77, good_zz77⟩, ⟨fn_zz8, good_zz8⟩, trivial⟩), (run_zz78 big x).trans h⟩

/-! zz79 -/
def zz79_b3 (rec : Y2 → Y4 → Int → Option (Y4 × Unit)) (k : Y4 → Option (Y4 × Unit)) (p1 : Y2) (out3 : Y4) (x4 : Int) : Option (Y4 × Unit) :=
  cond (decide (x4 < (p1.1.length : Int)))
  ((zz74 p1).bind fun rq1 =>
  (zz75 p1).bind fun rq2 =>
  (zz76 big p1 rq1.1 x4 rq2.1).bind fun rq3 =>
  (atI rq3.1 (0 : Int)).bind fun _ =>
  (rq3.1[(0 : Int).toNat]?).bind fun xq4 =>
  (appI out3 [xq4]).bind fun xq5 =>
  rec p1 xq5 (IntKind.i64.wrap (x4 + (1 : Int))))
  (k out3)
def zz79_a3 (out3 : Y4) : Option (Y4 × Unit) :=
  some (out3, (()))
def zz79_s (L3 : Y2 → Y4 → Int → Option (Y4 × Unit)) (p_0 : Y2) : Option (Y4 × Unit) :=
  L3 p_0 [] (0 : Int)
def zz79_l3 (N : Nat) (k : Y4 → Option (Y4 × Unit)) : Nat → Y2 → Y4 → Int → Option (Y4 × Unit)
  | 0, _, _, _ => none
  | m + 1, p1, out3, x4 => zz79_b3 (zz79_l3 N k m) k p1 out3 x4
def zz79_F3 (N : Nat) (p1 : Y2) (out3 : Y4) (x4 : Int) : Option (Y4 × Unit) := zz79_l3 N (zz79_a3) N p1 out3 x4
def zz79 (N : Nat) (p_0 : Y2) : Option (Y4 × Unit) := zz79_s (zz79_F3 N) p_0
def S_zz79 : Sig := { a := (.pair (.pair (.sl (.sl I)) .unit) .unit), md := [0], mf := [], m := .unit, r := (.sl I), rf := (.o .i), f := fun x => zz79 big x.1 }
def A_zz79 : Cfg := mkCfg tab [(122, S_zz74), (123, S_zz75), (121, S_zz76)] [(6, [.drop, .as (.ptr (.pair (.sl (.sl I)) .unit)) (.o .i), .drop, .as (.sl I) (.o .i), .as I .i]), (13, [.drop, .drop, .drop, .as (.sl I) (.o .i)])]
noncomputable def zz79_R3 (N n : Nat) (K : Ex → St → Option (Y4 × Unit)) (p1 : Y2) (out3 : Y4) (x4 : Int) : Option (Y4 × Unit) := iter ((A_zz79).shape 6) (run (A_zz79) N (codeAt Try.f81 [1, 1, 0, 1, 0, 0])) n ([.u, .val (.ptr (.pair (.sl (.sl I)) .unit)) (.o .i) p1, .u, .val (.sl I) (.o .i) out3, .val I .i x4] ++ List.replicate 21 .u) K
noncomputable abbrev zz79_z : Ex → St → Option (Y4 × Unit) := finish (A_zz79) S_zz79 Try.f81.results.toList
noncomputable abbrev zz79_X3 (kX : St → Option (Y4 × Unit)) : Y4 → Option (Y4 × Unit) := fun (out3 : Y4) => kX ([.u, .u, .u, .val (.sl I) (.o .i) out3] ++ List.replicate 22 .u)
noncomputable abbrev zz79_E3 (kX : St → Option (Y4 × Unit)) (kO : Nat → St → Option (Y4 × Unit)) : Ex → St → Option (Y4 × Unit) := exK zz79_z 0 ((A_zz79).shape 13) kX kO
theorem zz79_step3 (N : Nat) (m : Nat) (kX : St → Option (Y4 × Unit)) (kO : Nat → St → Option (Y4 × Unit)) (p1 : Y2) (out3 : Y4) (x4 : Int) : zz79_R3 N (m + 1) (zz79_E3 kX kO) p1 out3 x4 = zz79_b3 (zz79_R3 N m (zz79_E3 kX kO)) (zz79_X3 kX) p1 out3 x4 := by kernel_rfl
theorem zz79_iter3 (N : Nat) (kX : St → Option (Y4 × Unit)) (kO : Nat → St → Option (Y4 × Unit)) : ∀ (n : Nat) (p1 : Y2) (out3 : Y4) (x4 : Int), zz79_R3 N n (zz79_E3 kX kO) p1 out3 x4 = zz79_l3 N (zz79_X3 kX) n p1 out3 x4
  | 0, _, _, _ => rfl
  | m + 1, p1, out3, x4 => by
    have hrec : zz79_R3 N m (zz79_E3 kX kO) = (zz79_l3 N (zz79_X3 kX) m) := (funext fun p1 => (funext fun out3 => (funext fun x4 => zz79_iter3 N kX kO m p1 out3 x4)))
    refine (zz79_step3 N m kX kO p1 out3 x4).trans ?_
    rw [hrec]
    rfl
noncomputable abbrev zz79_K3 (N : Nat) : Ex → St → Option (Y4 × Unit) := (blockK 0 (seqK ((A_zz79).shape 13) (run (A_zz79) N (codeAt Try.f81 [1, 1, 1])) zz79_z))
noncomputable abbrev zz79_k3 (N : Nat) : St → Option (Y4 × Unit) := fun st' => run (A_zz79) N (codeAt Try.f81 [1, 1, 1]) st' zz79_z
theorem zz79_after3 (N : Nat) (out3 : Y4) : zz79_X3 (zz79_k3 N) out3 = zz79_a3 out3 := by kernel_rfl
theorem zz79_in3 (N : Nat) (p1 : Y2) (out3 : Y4) (x4 : Int) : zz79_R3 N N (zz79_K3 N) p1 out3 x4 = zz79_F3 N p1 out3 x4 :=
  have h : zz79_X3 (zz79_k3 N) = (zz79_a3) := (funext fun out3 => zz79_after3 N out3)
  ((iter_ex (fun st => by kernel_rfl) (fun st => by kernel_rfl)).trans (zz79_iter3 N (zz79_k3 N) (fun j st => (zz79_K3 N) (.exit j) st) N p1 out3 x4)).trans (congrArg (fun k => zz79_l3 N k N p1 out3 x4) h)
theorem run0_zz79 (N : Nat) (x : (S_zz79).a.den) : runF (A_zz79) N Try.f81 S_zz79 x = (zz79_s (zz79_R3 N N (zz79_K3 N)) x.1) := by kernel_rfl
theorem run_zz79 (N : Nat) (x : (S_zz79).a.den) : runF (A_zz79) N Try.f81 S_zz79 x = zz79 N x.1 := by
  refine (run0_zz79 N x).trans ?_
  rw [(funext fun p1 => (funext fun out3 => (funext fun x4 => zz79_in3 N p1 out3 x4)))]
  rfl
theorem fn_zz79 : FnOk Try.prog 81 := ⟨_, Try.func81, by kernel_rfl, by kernel_rfl⟩
theorem good_zz79 : Gx.Good Try.prog 81 S_zz79 := good_of_run Try.func81 (of_decide_eq_true (by kernel_rfl)) fun x r h => ⟨A_zz79, big, mkCfg_ok tabOk, mkCfg_sigs (show SigsOk Try.prog [(122, S_zz74), (123, S_zz75), (121, S_zz76)] from ⟨⟨fn_zz74, good_zz74⟩, ⟨fn_zz75, good_zz75⟩, ⟨fn_zz76, good_zz76⟩, trivial⟩), (run_zz79 big x).trans h⟩

/-! zz80 -/
def zz80_s (p_0 : Y2) (not_1 : Y4) (x_2 : Int) (y_3 : Int) : Option (Int × Unit) :=
  (atI not_1 y_3).bind fun xq1 =>
  (zz71 p_0 x_2 xq1).bind fun rq2 =>
  (atI not_1 x_2).bind fun xq3 =>
  (zz71 p_0 xq3 y_3).bind fun rq4 =>
  (zz70 p_0 rq2.1 rq4.1).bind fun rq5 =>
  some (rq5.1, (()))
def zz80 (p_0 : Y2) (not_1 : Y4) (x_2 : Int) (y_3 : Int) : Option (Int × Unit) := zz80_s p_0 not_1 x_2 y_3
def S_zz80 : Sig := { a := (.pair (.pair (.sl (.sl I)) .unit) (.pair (.sl I) (.pair I (.pair I .unit)))), md := [0, 0, 0, 0], mf := [], m := .unit, r := I, rf := .i, f := fun x => zz80 x.1 x.2.1 x.2.2.1 x.2.2.2.1 }
def A_zz80 : Cfg := mkCfg tab [(83, S_zz71), (124, S_zz70)] []
theorem run_zz80 (N : Nat) (x : (S_zz80).a.den) : runF (A_zz80) N Try.f82 S_zz80 x = zz80 x.1 x.2.1 x.2.2.1 x.2.2.2.1 := by kernel_rfl
theorem fn_zz80 : FnOk Try.prog 82 := ⟨_, Try.func82, by kernel_rfl, by kernel_rfl⟩
theorem good_zz80 : Gx.Good Try.prog 82 S_zz80 := good_of_run Try.func82 (of_decide_eq_true (by kernel_rfl)) fun x r h => ⟨A_zz80, big, mkCfg_ok tabOk, mkCfg_sigs (show SigsOk Try.prog [(83, S_zz71), (124, S_zz70)] from ⟨⟨fn_zz71, good_zz71⟩, ⟨fn_zz70, good_zz70⟩, trivial⟩), (run_zz80 big x).trans h⟩

/-! zz81 -/
def zz81_b7 (rec : Y2 → Y7 → Int → Y4 → Y6 → Y6 → Int → Int → Option (Y7 × Unit)) (k : Y2 → Y7 → Int → Y4 → Y6 → Y6 → Int → Option (Y7 × Unit)) (p1 : Y2) (t2 : Y7) (n3 : Int) (not4 : Y4) (sum5 : Y6) (meet6 : Y6) (x7 : Int) (y8 : Int) : Option (Y7 × Unit) :=
  cond (decide (y8 < n3))
  ((zz80 p1 not4 x7 y8).bind fun rq2 =>
  (appI sum5.2.1 [rq2.1]).bind fun xq3 =>
  (zz71 p1 x7 y8).bind fun rq4 =>
  (appI meet6.2.1 [rq4.1]).bind fun xq5 =>
  rec p1 t2 n3 not4 ((sum5.1, ((), sum5.2.2)).1, (xq3, ((sum5.1, ((), sum5.2.2)).2).2)) ((meet6.1, ((), meet6.2.2)).1, (xq5, ((meet6.1, ((), meet6.2.2)).2).2)) x7 (IntKind.i64.wrap (y8 + (1 : Int))))
  (k p1 t2 n3 not4 sum5 meet6 x7)
def zz81_a7 (rec : Y2 → Y7 → Int → Y4 → Y6 → Y6 → Int → Option (Y7 × Unit)) (p1 : Y2) (t2 : Y7) (n3 : Int) (not4 : Y4) (sum5 : Y6) (meet6 : Y6) (x7 : Int) : Option (Y7 × Unit) :=
  rec p1 t2 n3 not4 sum5 meet6 (IntKind.i64.wrap (x7 + (1 : Int)))
def zz81_b4 (L7 : Y2 → Y7 → Int → Y4 → Y6 → Y6 → Int → Int → Option (Y7 × Unit)) (k : Y7 → Int → Y6 → Y6 → Option (Y7 × Unit)) (p1 : Y2) (t2 : Y7) (n3 : Int) (not4 : Y4) (sum5 : Y6) (meet6 : Y6) (x7 : Int) : Option (Y7 × Unit) :=
  cond (decide (x7 < n3))
  (L7 p1 t2 n3 not4 sum5 meet6 x7 (0 : Int))
  (k t2 n3 sum5 meet6)
def zz81_a4 (t2 : Y7) (n3 : Int) (sum5 : Y6) (meet6 : Y6) : Option (Y7 × Unit) :=
  some ((n3, ([sum5, meet6], ())), (()))
def zz81_s (L4 : Y2 → Y7 → Int → Y4 → Y6 → Y6 → Int → Option (Y7 × Unit)) (p_0 : Y2) : Option (Y7 × Unit) :=
  (zz79 big p_0).bind fun rq1 =>
  L4 p_0 ((0 : Int), (([] : (List Y6)), ())) (p_0.1.length : Int) rq1.1 ((2 : Int), ([], ())) ((2 : Int), ([], ())) (0 : Int)
def zz81_l7 (N : Nat) (k : Y2 → Y7 → Int → Y4 → Y6 → Y6 → Int → Option (Y7 × Unit)) : Nat → Y2 → Y7 → Int → Y4 → Y6 → Y6 → Int → Int → Option (Y7 × Unit)
  | 0, _, _, _, _, _, _, _, _ => none
  | m + 1, p1, t2, n3, not4, sum5, meet6, x7, y8 => zz81_b7 (zz81_l7 N k m) k p1 t2 n3 not4 sum5 meet6 x7 y8
def zz81_F7 (N : Nat) (rec : Y2 → Y7 → Int → Y4 → Y6 → Y6 → Int → Option (Y7 × Unit)) (k : Y7 → Int → Y6 → Y6 → Option (Y7 × Unit)) (p1 : Y2) (t2 : Y7) (n3 : Int) (not4 : Y4) (sum5 : Y6) (meet6 : Y6) (x7 : Int) (y8 : Int) : Option (Y7 × Unit) := zz81_l7 N (zz81_a7 rec) N p1 t2 n3 not4 sum5 meet6 x7 y8
def zz81_l4 (N : Nat) (k : Y7 → Int → Y6 → Y6 → Option (Y7 × Unit)) : Nat → Y2 → Y7 → Int → Y4 → Y6 → Y6 → Int → Option (Y7 × Unit)
  | 0, _, _, _, _, _, _, _ => none
  | m + 1, p1, t2, n3, not4, sum5, meet6, x7 => zz81_b4 (zz81_F7 N (zz81_l4 N k m) k) k p1 t2 n3 not4 sum5 meet6 x7
def zz81_F4 (N : Nat) (p1 : Y2) (t2 : Y7) (n3 : Int) (not4 : Y4) (sum5 : Y6) (meet6 : Y6) (x7 : Int) : Option (Y7 × Unit) := zz81_l4 N (zz81_a4) N p1 t2 n3 not4 sum5 meet6 x7
def zz81 (N : Nat) (p_0 : Y2) : Option (Y7 × Unit) := zz81_s (zz81_F4 N) p_0
def S_zz81 : Sig := { a := (.pair (.pair (.sl (.sl I)) .unit) .unit), md := [0], mf := [], m := .unit, r := (.pair I (.pair (.sl (.pair I (.pair (.sl I) .unit))) .unit)), rf := (.p .i (.p (.o (.p .i (.p (.o .i) .i))) .i)), f := fun x => zz81 big x.1 }
def A_zz81 : Cfg := mkCfg tab [(81, S_zz79), (82, S_zz80), (83, S_zz71)] [(8, [.drop, .as (.ptr (.pair (.sl (.sl I)) .unit)) (.o .i), .as (.ptr (.pair I (.pair (.sl (.pair I (.pair (.sl I) .unit))) .unit))) (.o (.p .i (.p (.o (.p .i (.p (.o .i) .i))) .i))), .as I .i, .as (.sl I) (.o .i), .as (.ptr (.pair I (.pair (.sl I) .unit))) (.o (.p .i (.p (.o .i) .i))), .as (.ptr (.pair I (.pair (.sl I) .unit))) (.o (.p .i (.p (.o .i) .i))), .as I .i]), (14, [.drop, .as (.ptr (.pair (.sl (.sl I)) .unit)) (.o .i), .as (.ptr (.pair I (.pair (.sl (.pair I (.pair (.sl I) .unit))) .unit))) (.o (.p .i (.p (.o (.p .i (.p (.o .i) .i))) .i))), .as I .i, .as (.sl I) (.o .i), .as (.ptr (.pair I (.pair (.sl I) .unit))) (.o (.p .i (.p (.o .i) .i))), .as (.ptr (.pair I (.pair (.sl I) .unit))) (.o (.p .i (.p (.o .i) .i))), .as I .i, .as I .i]), (23, [.drop, .drop, .as (.ptr (.pair I (.pair (.sl (.pair I (.pair (.sl I) .unit))) .unit))) (.o (.p .i (.p (.o (.p .i (.p (.o .i) .i))) .i))), .as I .i, .drop, .as (.ptr (.pair I (.pair (.sl I) .unit))) (.o (.p .i (.p (.o .i) .i))), .as (.ptr (.pair I (.pair (.sl I) .unit))) (.o (.p .i (.p (.o .i) .i)))]), (11, [.drop, .as (.ptr (.pair (.sl (.sl I)) .unit)) (.o .i), .as (.ptr (.pair I (.pair (.sl (.pair I (.pair (.sl I) .unit))) .unit))) (.o (.p .i (.p (.o (.p .i (.p (.o .i) .i))) .i))), .as I .i, .as (.sl I) (.o .i), .as (.ptr (.pair I (.pair (.sl I) .unit))) (.o (.p .i (.p (.o .i) .i))), .as (.ptr (.pair I (.pair (.sl I) .unit))) (.o (.p .i (.p (.o .i) .i))), .as I .i])]
noncomputable def zz81_R4 (N n : Nat) (K : Ex → St → Option (Y7 × Unit)) (p1 : Y2) (t2 : Y7) (n3 : Int) (not4 : Y4) (sum5 : Y6) (meet6 : Y6) (x7 : Int) : Option (Y7 × Unit) := iter ((A_zz81).shape 8) (run (A_zz81) N (codeAt Try.f38 [1, 1, 1, 0, 1, 0, 0])) n ([.u, .val (.ptr (.pair (.sl (.sl I)) .unit)) (.o .i) p1, .val (.ptr (.pair I (.pair (.sl (.pair I (.pair (.sl I) .unit))) .unit))) (.o (.p .i (.p (.o (.p .i (.p (.o .i) .i))) .i))) t2, .val I .i n3, .val (.sl I) (.o .i) not4, .val (.ptr (.pair I (.pair (.sl I) .unit))) (.o (.p .i (.p (.o .i) .i))) sum5, .val (.ptr (.pair I (.pair (.sl I) .unit))) (.o (.p .i (.p (.o .i) .i))) meet6, .val I .i x7] ++ List.replicate 44 .u) K
noncomputable def zz81_R7 (N n : Nat) (K : Ex → St → Option (Y7 × Unit)) (p1 : Y2) (t2 : Y7) (n3 : Int) (not4 : Y4) (sum5 : Y6) (meet6 : Y6) (x7 : Int) (y8 : Int) : Option (Y7 × Unit) := iter ((A_zz81).shape 14) (run (A_zz81) N (codeAt Try.f38 [1, 1, 1, 0, 1, 0, 0, 1, 0, 0, 1, 0, 0])) n ([.u, .val (.ptr (.pair (.sl (.sl I)) .unit)) (.o .i) p1, .val (.ptr (.pair I (.pair (.sl (.pair I (.pair (.sl I) .unit))) .unit))) (.o (.p .i (.p (.o (.p .i (.p (.o .i) .i))) .i))) t2, .val I .i n3, .val (.sl I) (.o .i) not4, .val (.ptr (.pair I (.pair (.sl I) .unit))) (.o (.p .i (.p (.o .i) .i))) sum5, .val (.ptr (.pair I (.pair (.sl I) .unit))) (.o (.p .i (.p (.o .i) .i))) meet6, .val I .i x7, .val I .i y8] ++ List.replicate 43 .u) K
noncomputable abbrev zz81_z : Ex → St → Option (Y7 × Unit) := finish (A_zz81) S_zz81 Try.f38.results.toList
noncomputable abbrev zz81_X4 (kX : St → Option (Y7 × Unit)) : Y7 → Int → Y6 → Y6 → Option (Y7 × Unit) := fun (t2 : Y7) (n3 : Int) (sum5 : Y6) (meet6 : Y6) => kX ([.u, .u, .val (.ptr (.pair I (.pair (.sl (.pair I (.pair (.sl I) .unit))) .unit))) (.o (.p .i (.p (.o (.p .i (.p (.o .i) .i))) .i))) t2, .val I .i n3, .u, .val (.ptr (.pair I (.pair (.sl I) .unit))) (.o (.p .i (.p (.o .i) .i))) sum5, .val (.ptr (.pair I (.pair (.sl I) .unit))) (.o (.p .i (.p (.o .i) .i))) meet6] ++ List.replicate 45 .u)
noncomputable abbrev zz81_E4 (kX : St → Option (Y7 × Unit)) (kO : Nat → St → Option (Y7 × Unit)) : Ex → St → Option (Y7 × Unit) := exK zz81_z 0 ((A_zz81).shape 23) kX kO
noncomputable abbrev zz81_X7 (kX : St → Option (Y7 × Unit)) : Y2 → Y7 → Int → Y4 → Y6 → Y6 → Int → Option (Y7 × Unit) := fun (p1 : Y2) (t2 : Y7) (n3 : Int) (not4 : Y4) (sum5 : Y6) (meet6 : Y6) (x7 : Int) => kX ([.u, .val (.ptr (.pair (.sl (.sl I)) .unit)) (.o .i) p1, .val (.ptr (.pair I (.pair (.sl (.pair I (.pair (.sl I) .unit))) .unit))) (.o (.p .i (.p (.o (.p .i (.p (.o .i) .i))) .i))) t2, .val I .i n3, .val (.sl I) (.o .i) not4, .val (.ptr (.pair I (.pair (.sl I) .unit))) (.o (.p .i (.p (.o .i) .i))) sum5, .val (.ptr (.pair I (.pair (.sl I) .unit))) (.o (.p .i (.p (.o .i) .i))) meet6, .val I .i x7] ++ List.replicate 44 .u)
noncomputable abbrev zz81_E7 (kX : St → Option (Y7 × Unit)) (kO : Nat → St → Option (Y7 × Unit)) : Ex → St → Option (Y7 × Unit) := exK zz81_z 2 ((A_zz81).shape 11) kX kO
theorem zz81_step7 (N : Nat) (m : Nat) (kX : St → Option (Y7 × Unit)) (kO : Nat → St → Option (Y7 × Unit)) (p1 : Y2) (t2 : Y7) (n3 : Int) (not4 : Y4) (sum5 : Y6) (meet6 : Y6) (x7 : Int) (y8 : Int) : zz81_R7 N (m + 1) (zz81_E7 kX kO) p1 t2 n3 not4 sum5 meet6 x7 y8 = zz81_b7 (zz81_R7 N m (zz81_E7 kX kO)) (zz81_X7 kX) p1 t2 n3 not4 sum5 meet6 x7 y8 := by kernel_rfl
theorem zz81_iter7 (N : Nat) (kX : St → Option (Y7 × Unit)) (kO : Nat → St → Option (Y7 × Unit)) : ∀ (n : Nat) (p1 : Y2) (t2 : Y7) (n3 : Int) (not4 : Y4) (sum5 : Y6) (meet6 : Y6) (x7 : Int) (y8 : Int), zz81_R7 N n (zz81_E7 kX kO) p1 t2 n3 not4 sum5 meet6 x7 y8 = zz81_l7 N (zz81_X7 kX) n p1 t2 n3 not4 sum5 meet6 x7 y8
  | 0, _, _, _, _, _, _, _, _ => rfl
  | m + 1, p1, t2, n3, not4, sum5, meet6, x7, y8 => by
    have hrec : zz81_R7 N m (zz81_E7 kX kO) = (zz81_l7 N (zz81_X7 kX) m) := (funext fun p1 => (funext fun t2 => (funext fun n3 => (funext fun not4 => (funext fun sum5 => (funext fun meet6 => (funext fun x7 => (funext fun y8 => zz81_iter7 N kX kO m p1 t2 n3 not4 sum5 meet6 x7 y8))))))))
    refine (zz81_step7 N m kX kO p1 t2 n3 not4 sum5 meet6 x7 y8).trans ?_
    rw [hrec]
    rfl
noncomputable abbrev zz81_K7 (N : Nat) (m : Nat) (kX : St → Option (Y7 × Unit)) (kO : Nat → St → Option (Y7 × Unit)) : Ex → St → Option (Y7 × Unit) := (blockK 2 (blockK 1 (seqK ((A_zz81).shape 11) (run (A_zz81) N (codeAt Try.f38 [1, 1, 1, 0, 1, 0, 0, 1, 1])) (iterK ((A_zz81).shape 8) (run (A_zz81) N (codeAt Try.f38 [1, 1, 1, 0, 1, 0, 0])) m (zz81_E4 kX kO)))))
noncomputable abbrev zz81_k7 (N : Nat) (m : Nat) (kX : St → Option (Y7 × Unit)) (kO : Nat → St → Option (Y7 × Unit)) : St → Option (Y7 × Unit) := fun st' => run (A_zz81) N (codeAt Try.f38 [1, 1, 1, 0, 1, 0, 0, 1, 1]) st' (iterK ((A_zz81).shape 8) (run (A_zz81) N (codeAt Try.f38 [1, 1, 1, 0, 1, 0, 0])) m (zz81_E4 kX kO))
theorem zz81_after7 (N : Nat) (m : Nat) (kX : St → Option (Y7 × Unit)) (kO : Nat → St → Option (Y7 × Unit)) (p1 : Y2) (t2 : Y7) (n3 : Int) (not4 : Y4) (sum5 : Y6) (meet6 : Y6) (x7 : Int) : zz81_X7 (zz81_k7 N m kX kO) p1 t2 n3 not4 sum5 meet6 x7 = zz81_a7 (zz81_R4 N m (zz81_E4 kX kO)) p1 t2 n3 not4 sum5 meet6 x7 := by kernel_rfl
theorem zz81_in7 (N : Nat) (m : Nat) (kX : St → Option (Y7 × Unit)) (kO : Nat → St → Option (Y7 × Unit)) (recF : Y2 → Y7 → Int → Y4 → Y6 → Y6 → Int → Option (Y7 × Unit)) (hrec : zz81_R4 N m (zz81_E4 kX kO) = recF) (p1 : Y2) (t2 : Y7) (n3 : Int) (not4 : Y4) (sum5 : Y6) (meet6 : Y6) (x7 : Int) (y8 : Int) : zz81_R7 N N (zz81_K7 N m kX kO) p1 t2 n3 not4 sum5 meet6 x7 y8 = zz81_F7 N recF (zz81_X4 kX) p1 t2 n3 not4 sum5 meet6 x7 y8 :=
  have h : zz81_X7 (zz81_k7 N m kX kO) = (zz81_a7 recF) := (funext fun p1 => (funext fun t2 => (funext fun n3 => (funext fun not4 => (funext fun sum5 => (funext fun meet6 => (funext fun x7 => (zz81_after7 N m kX kO p1 t2 n3 not4 sum5 meet6 x7).trans (by rw [hrec]))))))))
  ((iter_ex (fun st => by kernel_rfl) (fun st => by kernel_rfl)).trans (zz81_iter7 N (zz81_k7 N m kX kO) (fun j st => (zz81_K7 N m kX kO) (.exit j) st) N p1 t2 n3 not4 sum5 meet6 x7 y8)).trans (congrArg (fun k => zz81_l7 N k N p1 t2 n3 not4 sum5 meet6 x7 y8) h)
theorem zz81_step4 (N : Nat) (m : Nat) (kX : St → Option (Y7 × Unit)) (kO : Nat → St → Option (Y7 × Unit)) (p1 : Y2) (t2 : Y7) (n3 : Int) (not4 : Y4) (sum5 : Y6) (meet6 : Y6) (x7 : Int) : zz81_R4 N (m + 1) (zz81_E4 kX kO) p1 t2 n3 not4 sum5 meet6 x7 = zz81_b4 (zz81_R7 N N (zz81_K7 N m kX kO)) (zz81_X4 kX) p1 t2 n3 not4 sum5 meet6 x7 := by kernel_rfl
theorem zz81_iter4 (N : Nat) (kX : St → Option (Y7 × Unit)) (kO : Nat → St → Option (Y7 × Unit)) : ∀ (n : Nat) (p1 : Y2) (t2 : Y7) (n3 : Int) (not4 : Y4) (sum5 : Y6) (meet6 : Y6) (x7 : Int), zz81_R4 N n (zz81_E4 kX kO) p1 t2 n3 not4 sum5 meet6 x7 = zz81_l4 N (zz81_X4 kX) n p1 t2 n3 not4 sum5 meet6 x7
  | 0, _, _, _, _, _, _, _ => rfl
  | m + 1, p1, t2, n3, not4, sum5, meet6, x7 => by
    have hrec : zz81_R4 N m (zz81_E4 kX kO) = (zz81_l4 N (zz81_X4 kX) m) := (funext fun p1 => (funext fun t2 => (funext fun n3 => (funext fun not4 => (funext fun sum5 => (funext fun meet6 => (funext fun x7 => zz81_iter4 N kX kO m p1 t2 n3 not4 sum5 meet6 x7)))))))
    refine (zz81_step4 N m kX kO p1 t2 n3 not4 sum5 meet6 x7).trans ?_
    rw [(funext fun p1 => (funext fun t2 => (funext fun n3 => (funext fun not4 => (funext fun sum5 => (funext fun meet6 => (funext fun x7 => (funext fun y8 => zz81_in7 N m kX kO (zz81_l4 N (zz81_X4 kX) m) hrec p1 t2 n3 not4 sum5 meet6 x7 y8))))))))]
    rfl
noncomputable abbrev zz81_K4 (N : Nat) : Ex → St → Option (Y7 × Unit) := (blockK 0 (seqK ((A_zz81).shape 23) (run (A_zz81) N (codeAt Try.f38 [1, 1, 1, 1])) zz81_z))
noncomputable abbrev zz81_k4 (N : Nat) : St → Option (Y7 × Unit) := fun st' => run (A_zz81) N (codeAt Try.f38 [1, 1, 1, 1]) st' zz81_z
theorem zz81_after4 (N : Nat) (t2 : Y7) (n3 : Int) (sum5 : Y6) (meet6 : Y6) : zz81_X4 (zz81_k4 N) t2 n3 sum5 meet6 = zz81_a4 t2 n3 sum5 meet6 := by kernel_rfl
theorem zz81_in4 (N : Nat) (p1 : Y2) (t2 : Y7) (n3 : Int) (not4 : Y4) (sum5 : Y6) (meet6 : Y6) (x7 : Int) : zz81_R4 N N (zz81_K4 N) p1 t2 n3 not4 sum5 meet6 x7 = zz81_F4 N p1 t2 n3 not4 sum5 meet6 x7 :=
  have h : zz81_X4 (zz81_k4 N) = (zz81_a4) := (funext fun t2 => (funext fun n3 => (funext fun sum5 => (funext fun meet6 => zz81_after4 N t2 n3 sum5 meet6))))
  ((iter_ex (fun st => by kernel_rfl) (fun st => by kernel_rfl)).trans (zz81_iter4 N (zz81_k4 N) (fun j st => (zz81_K4 N) (.exit j) st) N p1 t2 n3 not4 sum5 meet6 x7)).trans (congrArg (fun k => zz81_l4 N k N p1 t2 n3 not4 sum5 meet6 x7) h)
theorem run0_zz81 (N : Nat) (x : (S_zz81).a.den) : runF (A_zz81) N Try.f38 S_zz81 x = (zz81_s (zz81_R4 N N (zz81_K4 N)) x.1) := by kernel_rfl
theorem run_zz81 (N : Nat) (x : (S_zz81).a.den) : runF (A_zz81) N Try.f38 S_zz81 x = zz81 N x.1 := by
  refine (run0_zz81 N x).trans ?_
  rw [(funext fun p1 => (funext fun t2 => (funext fun n3 => (funext fun not4 => (funext fun sum5 => (funext fun meet6 => (funext fun x7 => zz81_in4 N p1 t2 n3 not4 sum5 meet6 x7)))))))]
  rfl
theorem fn_zz81 : FnOk Try.prog 38 := ⟨_, Try.func38, by kernel_rfl, by kernel_rfl⟩
theorem good_zz81 : Gx.Good Try.prog 38 S_zz81 := good_of_run Try.func38 (of_decide_eq_true (by kernel_rfl)) fun x r h => ⟨A_zz81, big, mkCfg_ok tabOk, mkCfg_sigs (show SigsOk Try.prog [(81, S_zz79), (82, S_zz80), (83, S_zz71)] from ⟨⟨fn_zz79, good_zz79⟩, ⟨fn_zz80, good_zz80⟩, ⟨fn_zz71, good_zz71⟩, trivial⟩), (run_zz81 big x).trans h⟩

/-! zz82 -/
def zz82_s (p_0 : Y2) : Option ((Y7 × (Bool × Unit)) × Unit) :=
  (zz78 p_0).bind fun rq1 =>
  cond (!rq1.1)
  (some ((((0 : Int), (([] : (List Y6)), ())), false, ()), (())))
  ((zz81 big p_0).bind fun rq2 =>
  some ((rq2.1, true, ()), (())))
def zz82 (p_0 : Y2) : Option ((Y7 × (Bool × Unit)) × Unit) := zz82_s p_0
def S_zz82 : Sig := { a := (.pair (.pair (.sl (.sl I)) .unit) .unit), md := [0], mf := [], m := .unit, r := (.tup (.pair (.pair I (.pair (.sl (.pair I (.pair (.sl I) .unit))) .unit)) (.pair .bool .unit))), rf := (.p (.p .i (.p (.o (.p .i (.p (.o .i) .i))) .i)) .i), f := fun x => zz82 x.1 }
def A_zz82 : Cfg := mkCfg tab [(37, S_zz78), (38, S_zz81)] []
theorem run_zz82 (N : Nat) (x : (S_zz82).a.den) : runF (A_zz82) N Try.f10 S_zz82 x = zz82 x.1 := by kernel_rfl
theorem fn_zz82 : FnOk Try.prog 10 := ⟨_, Try.func10, by kernel_rfl, by kernel_rfl⟩
theorem good_zz82 : Gx.Good Try.prog 10 S_zz82 := good_of_run Try.func10 (of_decide_eq_true (by kernel_rfl)) fun x r h => ⟨A_zz82, big, mkCfg_ok tabOk, mkCfg_sigs (show SigsOk Try.prog [(37, S_zz78), (38, S_zz81)] from ⟨⟨fn_zz78, good_zz78⟩, ⟨fn_zz81, good_zz81⟩, trivial⟩), (run_zz82 big x).trans h⟩
end Go.Proofs.Ytmkabioglfeflaa
