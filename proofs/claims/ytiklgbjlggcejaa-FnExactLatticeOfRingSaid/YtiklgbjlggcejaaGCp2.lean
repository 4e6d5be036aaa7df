import Derived.Test.YtiklgbjlggcejaaGCp1
set_option maxRecDepth 100000
set_option linter.unusedVariables false
namespace Go.Proofs.Ytiklgbjlggcejaa
open Go Go.Gx Go.Proofs

/-! zz43 -/
def zz43_b6 (rec : Int → Y4 → Y5 → Int → Int → Int → Int → Int → Option (Y5 × Unit)) (k : Int → Y4 → Y5 → Int → Int → Option (Y5 × Unit)) (n0 : Int) (table1 : Y4) (o5 : Y5) (x6 : Int) (t11 : Int) (t12 : Int) (t16 : Int) (t17 : Int) : Option (Y5 × Unit) :=
  cond (decide (t17 < t16))
  ((atI o5 x6).bind fun _ =>
  (o5[x6.toNat]?).bind fun xq2 =>
  (atI table1 (IntKind.i64.wrap ((IntKind.i64.wrap (x6 * n0)) + t17))).bind fun xq3 =>
  (o5[x6.toNat]?).bind fun xq4 =>
  (atI xq4 t17).bind fun _ =>
  (o5[x6.toNat]?).bind fun xq5 =>
  (xq5[t17.toNat]?).bind fun xq6 =>
  rec n0 table1 (o5.set x6.toNat (xq5.set t17.toNat (decide (xq3 = x6)))) x6 t11 t12 t16 (IntKind.i64.wrap (t17 + (1 : Int))))
  (k n0 table1 o5 t11 t12)
def zz43_a6 (rec : Int → Y4 → Y5 → Int → Int → Option (Y5 × Unit)) (n0 : Int) (table1 : Y4) (o5 : Y5) (t11 : Int) (t12 : Int) : Option (Y5 × Unit) :=
  rec n0 table1 o5 t11 (IntKind.i64.wrap (t12 + (1 : Int)))
def zz43_b3 (L6 : Int → Y4 → Y5 → Int → Int → Int → Int → Int → Option (Y5 × Unit)) (k : Y5 → Option (Y5 × Unit)) (n0 : Int) (table1 : Y4) (o5 : Y5) (t11 : Int) (t12 : Int) : Option (Y5 × Unit) :=
  cond (decide (t12 < t11))
  (L6 n0 table1 o5 t12 t11 t12 (o5.length : Int) (0 : Int))
  (k o5)
def zz43_a3 (o5 : Y5) : Option (Y5 × Unit) :=
  some (o5, (()))
def zz43_s (L3 : Int → Y4 → Y5 → Int → Int → Option (Y5 × Unit)) (n_0 : Int) (table_1 : Y4) : Option (Y5 × Unit) :=
  (zz42 big n_0).bind fun rq1 =>
  L3 n_0 table_1 rq1.1 (rq1.1.length : Int) (0 : Int)
def zz43_l6 (N : Nat) (k : Int → Y4 → Y5 → Int → Int → Option (Y5 × Unit)) : Nat → Int → Y4 → Y5 → Int → Int → Int → Int → Int → Option (Y5 × Unit)
  | 0, _, _, _, _, _, _, _, _ => none
  | m + 1, n0, table1, o5, x6, t11, t12, t16, t17 => zz43_b6 (zz43_l6 N k m) k n0 table1 o5 x6 t11 t12 t16 t17
def zz43_F6 (N : Nat) (rec : Int → Y4 → Y5 → Int → Int → Option (Y5 × Unit)) (k : Y5 → Option (Y5 × Unit)) (n0 : Int) (table1 : Y4) (o5 : Y5) (x6 : Int) (t11 : Int) (t12 : Int) (t16 : Int) (t17 : Int) : Option (Y5 × Unit) := zz43_l6 N (zz43_a6 rec) N n0 table1 o5 x6 t11 t12 t16 t17
def zz43_l3 (N : Nat) (k : Y5 → Option (Y5 × Unit)) : Nat → Int → Y4 → Y5 → Int → Int → Option (Y5 × Unit)
  | 0, _, _, _, _, _ => none
  | m + 1, n0, table1, o5, t11, t12 => zz43_b3 (zz43_F6 N (zz43_l3 N k m) k) k n0 table1 o5 t11 t12
def zz43_F3 (N : Nat) (n0 : Int) (table1 : Y4) (o5 : Y5) (t11 : Int) (t12 : Int) : Option (Y5 × Unit) := zz43_l3 N (zz43_a3) N n0 table1 o5 t11 t12
def zz43 (N : Nat) (n_0 : Int) (table_1 : Y4) : Option (Y5 × Unit) := zz43_s (zz43_F3 N) n_0 table_1
def S_zz43 : Sig := { a := (.pair I (.pair (.sl I) .unit)), md := [0, 0], mf := [], m := .unit, r := (.sl (.sl .bool)), rf := (.o (.o .i)), f := fun x => zz43 big x.1 x.2.1 }
def A_zz43 : Cfg := mkCfg tab [(98, S_zz42)] [(6, [.as I .i, .as (.sl I) .i, .drop, .drop, .drop, .as (.sl (.sl .bool)) (.o (.o .i)), .drop, .drop, .drop, .drop, .drop, .as I .i, .as I .i]), (12, [.as I .i, .as (.sl I) .i, .drop, .drop, .drop, .as (.sl (.sl .bool)) (.o (.o .i)), .as I .i, .drop, .drop, .drop, .drop, .as I .i, .as I .i, .drop, .drop, .drop, .as I .i, .as I .i]), (23, [.drop, .drop, .drop, .drop, .drop, .as (.sl (.sl .bool)) (.o (.o .i))]), (21, [.as I .i, .as (.sl I) .i, .drop, .drop, .drop, .as (.sl (.sl .bool)) (.o (.o .i)), .drop, .drop, .drop, .drop, .drop, .as I .i, .as I .i])]
noncomputable def zz43_R3 (N n : Nat) (K : Ex → St → Option (Y5 × Unit)) (n0 : Int) (table1 : Y4) (o5 : Y5) (t11 : Int) (t12 : Int) : Option (Y5 × Unit) := iter ((A_zz43).shape 6) (run (A_zz43) N (codeAt Try.f67 [1, 1, 0, 1, 0, 0])) n ([.val I .i n0, .val (.sl I) .i table1, .u, .u, .u, .val (.sl (.sl .bool)) (.o (.o .i)) o5, .u, .u, .u, .u, .u, .val I .i t11, .val I .i t12] ++ List.replicate 26 .u) K
noncomputable def zz43_R6 (N n : Nat) (K : Ex → St → Option (Y5 × Unit)) (n0 : Int) (table1 : Y4) (o5 : Y5) (x6 : Int) (t11 : Int) (t12 : Int) (t16 : Int) (t17 : Int) : Option (Y5 × Unit) := iter ((A_zz43).shape 12) (run (A_zz43) N (codeAt Try.f67 [1, 1, 0, 1, 0, 0, 1, 1, 0, 0, 1, 1, 0, 0])) n ([.val I .i n0, .val (.sl I) .i table1, .u, .u, .u, .val (.sl (.sl .bool)) (.o (.o .i)) o5, .val I .i x6, .u, .u, .u, .u, .val I .i t11, .val I .i t12, .u, .u, .u, .val I .i t16, .val I .i t17] ++ List.replicate 21 .u) K
noncomputable abbrev zz43_z : Ex → St → Option (Y5 × Unit) := finish (A_zz43) S_zz43 Try.f67.results.toList
noncomputable abbrev zz43_X3 (kX : St → Option (Y5 × Unit)) : Y5 → Option (Y5 × Unit) := fun (o5 : Y5) => kX ([.u, .u, .u, .u, .u, .val (.sl (.sl .bool)) (.o (.o .i)) o5] ++ List.replicate 33 .u)
noncomputable abbrev zz43_E3 (kX : St → Option (Y5 × Unit)) (kO : Nat → St → Option (Y5 × Unit)) : Ex → St → Option (Y5 × Unit) := exK zz43_z 0 ((A_zz43).shape 23) kX kO
noncomputable abbrev zz43_X6 (kX : St → Option (Y5 × Unit)) : Int → Y4 → Y5 → Int → Int → Option (Y5 × Unit) := fun (n0 : Int) (table1 : Y4) (o5 : Y5) (t11 : Int) (t12 : Int) => kX ([.val I .i n0, .val (.sl I) .i table1, .u, .u, .u, .val (.sl (.sl .bool)) (.o (.o .i)) o5, .u, .u, .u, .u, .u, .val I .i t11, .val I .i t12] ++ List.replicate 26 .u)
noncomputable abbrev zz43_E6 (kX : St → Option (Y5 × Unit)) (kO : Nat → St → Option (Y5 × Unit)) : Ex → St → Option (Y5 × Unit) := exK zz43_z 2 ((A_zz43).shape 21) kX kO
theorem zz43_step6 (N : Nat) (m : Nat) (kX : St → Option (Y5 × Unit)) (kO : Nat → St → Option (Y5 × Unit)) (n0 : Int) (table1 : Y4) (o5 : Y5) (x6 : Int) (t11 : Int) (t12 : Int) (t16 : Int) (t17 : Int) : zz43_R6 N (m + 1) (zz43_E6 kX kO) n0 table1 o5 x6 t11 t12 t16 t17 = zz43_b6 (zz43_R6 N m (zz43_E6 kX kO)) (zz43_X6 kX) n0 table1 o5 x6 t11 t12 t16 t17 := by kernel_rfl
theorem zz43_iter6 (N : Nat) (kX : St → Option (Y5 × Unit)) (kO : Nat → St → Option (Y5 × Unit)) : ∀ (n : Nat) (n0 : Int) (table1 : Y4) (o5 : Y5) (x6 : Int) (t11 : Int) (t12 : Int) (t16 : Int) (t17 : Int), zz43_R6 N n (zz43_E6 kX kO) n0 table1 o5 x6 t11 t12 t16 t17 = zz43_l6 N (zz43_X6 kX) n n0 table1 o5 x6 t11 t12 t16 t17
  | 0, _, _, _, _, _, _, _, _ => rfl
  | m + 1, n0, table1, o5, x6, t11, t12, t16, t17 => by
    have hrec : zz43_R6 N m (zz43_E6 kX kO) = (zz43_l6 N (zz43_X6 kX) m) := (funext fun n0 => (funext fun table1 => (funext fun o5 => (funext fun x6 => (funext fun t11 => (funext fun t12 => (funext fun t16 => (funext fun t17 => zz43_iter6 N kX kO m n0 table1 o5 x6 t11 t12 t16 t17))))))))
    refine (zz43_step6 N m kX kO n0 table1 o5 x6 t11 t12 t16 t17).trans ?_
    rw [hrec]
    rfl
noncomputable abbrev zz43_K6 (N : Nat) (m : Nat) (kX : St → Option (Y5 × Unit)) (kO : Nat → St → Option (Y5 × Unit)) : Ex → St → Option (Y5 × Unit) := (blockK 2 (blockK 1 (seqK ((A_zz43).shape 21) (run (A_zz43) N (codeAt Try.f67 [1, 1, 0, 1, 0, 0, 1, 1, 1])) (iterK ((A_zz43).shape 6) (run (A_zz43) N (codeAt Try.f67 [1, 1, 0, 1, 0, 0])) m (zz43_E3 kX kO)))))
noncomputable abbrev zz43_k6 (N : Nat) (m : Nat) (kX : St → Option (Y5 × Unit)) (kO : Nat → St → Option (Y5 × Unit)) : St → Option (Y5 × Unit) := fun st' => run (A_zz43) N (codeAt Try.f67 [1, 1, 0, 1, 0, 0, 1, 1, 1]) st' (iterK ((A_zz43).shape 6) (run (A_zz43) N (codeAt Try.f67 [1, 1, 0, 1, 0, 0])) m (zz43_E3 kX kO))
theorem zz43_after6 (N : Nat) (m : Nat) (kX : St → Option (Y5 × Unit)) (kO : Nat → St → Option (Y5 × Unit)) (n0 : Int) (table1 : Y4) (o5 : Y5) (t11 : Int) (t12 : Int) : zz43_X6 (zz43_k6 N m kX kO) n0 table1 o5 t11 t12 = zz43_a6 (zz43_R3 N m (zz43_E3 kX kO)) n0 table1 o5 t11 t12 := by kernel_rfl
theorem zz43_in6 (N : Nat) (m : Nat) (kX : St → Option (Y5 × Unit)) (kO : Nat → St → Option (Y5 × Unit)) (recF : Int → Y4 → Y5 → Int → Int → Option (Y5 × Unit)) (hrec : zz43_R3 N m (zz43_E3 kX kO) = recF) (n0 : Int) (table1 : Y4) (o5 : Y5) (x6 : Int) (t11 : Int) (t12 : Int) (t16 : Int) (t17 : Int) : zz43_R6 N N (zz43_K6 N m kX kO) n0 table1 o5 x6 t11 t12 t16 t17 = zz43_F6 N recF (zz43_X3 kX) n0 table1 o5 x6 t11 t12 t16 t17 :=
  have h : zz43_X6 (zz43_k6 N m kX kO) = (zz43_a6 recF) := (funext fun n0 => (funext fun table1 => (funext fun o5 => (funext fun t11 => (funext fun t12 => (zz43_after6 N m kX kO n0 table1 o5 t11 t12).trans (by rw [hrec]))))))
  ((iter_ex (fun st => by kernel_rfl) (fun st => by kernel_rfl)).trans (zz43_iter6 N (zz43_k6 N m kX kO) (fun j st => (zz43_K6 N m kX kO) (.exit j) st) N n0 table1 o5 x6 t11 t12 t16 t17)).trans (congrArg (fun k => zz43_l6 N k N n0 table1 o5 x6 t11 t12 t16 t17) h)
theorem zz43_step3 (N : Nat) (m : Nat) (kX : St → Option (Y5 × Unit)) (kO : Nat → St → Option (Y5 × Unit)) (n0 : Int) (table1 : Y4) (o5 : Y5) (t11 : Int) (t12 : Int) : zz43_R3 N (m + 1) (zz43_E3 kX kO) n0 table1 o5 t11 t12 = zz43_b3 (zz43_R6 N N (zz43_K6 N m kX kO)) (zz43_X3 kX) n0 table1 o5 t11 t12 := by kernel_rfl
theorem zz43_iter3 (N : Nat) (kX : St → Option (Y5 × Unit)) (kO : Nat → St → Option (Y5 × Unit)) : ∀ (n : Nat) (n0 : Int) (table1 : Y4) (o5 : Y5) (t11 : Int) (t12 : Int), zz43_R3 N n (zz43_E3 kX kO) n0 table1 o5 t11 t12 = zz43_l3 N (zz43_X3 kX) n n0 table1 o5 t11 t12
  | 0, _, _, _, _, _ => rfl
  | m + 1, n0, table1, o5, t11, t12 => by
    have hrec : zz43_R3 N m (zz43_E3 kX kO) = (zz43_l3 N (zz43_X3 kX) m) := (funext fun n0 => (funext fun table1 => (funext fun o5 => (funext fun t11 => (funext fun t12 => zz43_iter3 N kX kO m n0 table1 o5 t11 t12)))))
    refine (zz43_step3 N m kX kO n0 table1 o5 t11 t12).trans ?_
    rw [(funext fun n0 => (funext fun table1 => (funext fun o5 => (funext fun x6 => (funext fun t11 => (funext fun t12 => (funext fun t16 => (funext fun t17 => zz43_in6 N m kX kO (zz43_l3 N (zz43_X3 kX) m) hrec n0 table1 o5 x6 t11 t12 t16 t17))))))))]
    rfl
noncomputable abbrev zz43_K3 (N : Nat) : Ex → St → Option (Y5 × Unit) := (blockK 0 (seqK ((A_zz43).shape 23) (run (A_zz43) N (codeAt Try.f67 [1, 1, 1])) zz43_z))
noncomputable abbrev zz43_k3 (N : Nat) : St → Option (Y5 × Unit) := fun st' => run (A_zz43) N (codeAt Try.f67 [1, 1, 1]) st' zz43_z
theorem zz43_after3 (N : Nat) (o5 : Y5) : zz43_X3 (zz43_k3 N) o5 = zz43_a3 o5 := by kernel_rfl
theorem zz43_in3 (N : Nat) (n0 : Int) (table1 : Y4) (o5 : Y5) (t11 : Int) (t12 : Int) : zz43_R3 N N (zz43_K3 N) n0 table1 o5 t11 t12 = zz43_F3 N n0 table1 o5 t11 t12 :=
  have h : zz43_X3 (zz43_k3 N) = (zz43_a3) := (funext fun o5 => zz43_after3 N o5)
  ((iter_ex (fun st => by kernel_rfl) (fun st => by kernel_rfl)).trans (zz43_iter3 N (zz43_k3 N) (fun j st => (zz43_K3 N) (.exit j) st) N n0 table1 o5 t11 t12)).trans (congrArg (fun k => zz43_l3 N k N n0 table1 o5 t11 t12) h)
theorem run0_zz43 (N : Nat) (x : (S_zz43).a.den) : runF (A_zz43) N Try.f67 S_zz43 x = (zz43_s (zz43_R3 N N (zz43_K3 N)) x.1 x.2.1) := by kernel_rfl
theorem run_zz43 (N : Nat) (x : (S_zz43).a.den) : runF (A_zz43) N Try.f67 S_zz43 x = zz43 N x.1 x.2.1 := by
  refine (run0_zz43 N x).trans ?_
  rw [(funext fun n0 => (funext fun table1 => (funext fun o5 => (funext fun t11 => (funext fun t12 => zz43_in3 N n0 table1 o5 t11 t12)))))]
  rfl
theorem fn_zz43 : FnOk Try.prog 67 := ⟨_, Try.func67, by kernel_rfl, by kernel_rfl⟩
theorem good_zz43 : Gx.Good Try.prog 67 S_zz43 := good_of_run Try.func67 (of_decide_eq_true (by kernel_rfl)) fun x r h => ⟨A_zz43, big, mkCfg_ok tabOk, mkCfg_sigs (show SigsOk Try.prog [(98, S_zz42)] from ⟨⟨fn_zz42, good_zz42⟩, trivial⟩), (run_zz43 big x).trans h⟩

/-! zz44 -/
def zz44_b7 (rec : Y5 → Y2 → Y2 → Int → Y4 → Int → Int → Int → Int → Option (Y2 × Unit)) (k : Y5 → Y2 → Y2 → Y4 → Int → Int → Option (Y2 × Unit)) (o0 : Y5) (t2 : Y2) (p3 : Y2) (x4 : Int) (list5 : Y4) (t10 : Int) (t11 : Int) (t16 : Int) (t17 : Int) : Option (Y2 × Unit) :=
  cond (decide (t17 < t16))
  ((atI o0 t17).bind fun xq1 =>
  (atI xq1 x4).bind fun xq2 =>
  cond xq2
  ((appI list5 [t17]).bind fun xq3 =>
  rec o0 t2 p3 x4 xq3 t10 t11 t16 (IntKind.i64.wrap (t17 + (1 : Int))))
  (rec o0 t2 p3 x4 list5 t10 t11 t16 (IntKind.i64.wrap (t17 + (1 : Int)))))
  (k o0 t2 p3 list5 t10 t11)
def zz44_a7 (rec : Y5 → Y2 → Y2 → Int → Int → Option (Y2 × Unit)) (o0 : Y5) (t2 : Y2) (p3 : Y2) (list5 : Y4) (t10 : Int) (t11 : Int) : Option (Y2 × Unit) :=
  (appI p3.1 [list5]).bind fun xq4 =>
  rec o0 t2 (xq4, ((), p3.2).2) t10 (IntKind.i64.wrap (t11 + (1 : Int)))
def zz44_b3 (L7 : Y5 → Y2 → Y2 → Int → Y4 → Int → Int → Int → Int → Option (Y2 × Unit)) (k : Y2 → Y2 → Option (Y2 × Unit)) (o0 : Y5) (t2 : Y2) (p3 : Y2) (t10 : Int) (t11 : Int) : Option (Y2 × Unit) :=
  cond (decide (t11 < t10))
  (L7 o0 t2 p3 t11 [] t10 t11 (o0.length : Int) (0 : Int))
  (k t2 p3)
def zz44_a3 (t2 : Y2) (p3 : Y2) : Option (Y2 × Unit) :=
  some (p3, (()))
def zz44_s (L3 : Y5 → Y2 → Y2 → Int → Int → Option (Y2 × Unit)) (o_0 : Y5) : Option (Y2 × Unit) :=
  L3 o_0 (([] : Y3), ()) ([], ()) (o_0.length : Int) (0 : Int)
def zz44_l7 (N : Nat) (k : Y5 → Y2 → Y2 → Y4 → Int → Int → Option (Y2 × Unit)) : Nat → Y5 → Y2 → Y2 → Int → Y4 → Int → Int → Int → Int → Option (Y2 × Unit)
  | 0, _, _, _, _, _, _, _, _, _ => none
  | m + 1, o0, t2, p3, x4, list5, t10, t11, t16, t17 => zz44_b7 (zz44_l7 N k m) k o0 t2 p3 x4 list5 t10 t11 t16 t17
def zz44_F7 (N : Nat) (rec : Y5 → Y2 → Y2 → Int → Int → Option (Y2 × Unit)) (k : Y2 → Y2 → Option (Y2 × Unit)) (o0 : Y5) (t2 : Y2) (p3 : Y2) (x4 : Int) (list5 : Y4) (t10 : Int) (t11 : Int) (t16 : Int) (t17 : Int) : Option (Y2 × Unit) := zz44_l7 N (zz44_a7 rec) N o0 t2 p3 x4 list5 t10 t11 t16 t17
def zz44_l3 (N : Nat) (k : Y2 → Y2 → Option (Y2 × Unit)) : Nat → Y5 → Y2 → Y2 → Int → Int → Option (Y2 × Unit)
  | 0, _, _, _, _, _ => none
  | m + 1, o0, t2, p3, t10, t11 => zz44_b3 (zz44_F7 N (zz44_l3 N k m) k) k o0 t2 p3 t10 t11
def zz44_F3 (N : Nat) (o0 : Y5) (t2 : Y2) (p3 : Y2) (t10 : Int) (t11 : Int) : Option (Y2 × Unit) := zz44_l3 N (zz44_a3) N o0 t2 p3 t10 t11
def zz44 (N : Nat) (o_0 : Y5) : Option (Y2 × Unit) := zz44_s (zz44_F3 N) o_0
def S_zz44 : Sig := { a := (.pair (.sl (.sl .bool)) .unit), md := [0], mf := [], m := .unit, r := (.pair (.sl (.sl I)) .unit), rf := (.p (.o (.o .i)) .i), f := fun x => zz44 big x.1 }
def A_zz44 : Cfg := mkCfg tab [] [(6, [.as (.sl (.sl .bool)) .i, .drop, .as (.ptr (.pair (.sl (.sl I)) .unit)) (.o (.p (.o (.o .i)) .i)), .as (.ptr (.pair (.sl (.sl I)) .unit)) (.o (.p (.o (.o .i)) .i)), .drop, .drop, .drop, .drop, .drop, .drop, .as I .i, .as I .i]), (14, [.as (.sl (.sl .bool)) .i, .drop, .as (.ptr (.pair (.sl (.sl I)) .unit)) (.o (.p (.o (.o .i)) .i)), .as (.ptr (.pair (.sl (.sl I)) .unit)) (.o (.p (.o (.o .i)) .i)), .as I .i, .as (.sl I) (.o .i), .drop, .drop, .drop, .drop, .as I .i, .as I .i, .drop, .drop, .drop, .drop, .as I .i, .as I .i]), (29, [.drop, .drop, .as (.ptr (.pair (.sl (.sl I)) .unit)) (.o (.p (.o (.o .i)) .i)), .as (.ptr (.pair (.sl (.sl I)) .unit)) (.o (.p (.o (.o .i)) .i))]), (25, [.as (.sl (.sl .bool)) .i, .drop, .as (.ptr (.pair (.sl (.sl I)) .unit)) (.o (.p (.o (.o .i)) .i)), .as (.ptr (.pair (.sl (.sl I)) .unit)) (.o (.p (.o (.o .i)) .i)), .drop, .as (.sl I) (.o .i), .drop, .drop, .drop, .drop, .as I .i, .as I .i])]
noncomputable def zz44_R3 (N n : Nat) (K : Ex → St → Option (Y2 × Unit)) (o0 : Y5) (t2 : Y2) (p3 : Y2) (t10 : Int) (t11 : Int) : Option (Y2 × Unit) := iter ((A_zz44).shape 6) (run (A_zz44) N (codeAt Try.f68 [1, 1, 0, 1, 0, 0])) n ([.val (.sl (.sl .bool)) .i o0, .u, .val (.ptr (.pair (.sl (.sl I)) .unit)) (.o (.p (.o (.o .i)) .i)) t2, .val (.ptr (.pair (.sl (.sl I)) .unit)) (.o (.p (.o (.o .i)) .i)) p3, .u, .u, .u, .u, .u, .u, .val I .i t10, .val I .i t11] ++ List.replicate 28 .u) K
noncomputable def zz44_R7 (N n : Nat) (K : Ex → St → Option (Y2 × Unit)) (o0 : Y5) (t2 : Y2) (p3 : Y2) (x4 : Int) (list5 : Y4) (t10 : Int) (t11 : Int) (t16 : Int) (t17 : Int) : Option (Y2 × Unit) := iter ((A_zz44).shape 14) (run (A_zz44) N (codeAt Try.f68 [1, 1, 0, 1, 0, 0, 1, 1, 0, 0, 1, 1, 0, 1, 0, 0])) n ([.val (.sl (.sl .bool)) .i o0, .u, .val (.ptr (.pair (.sl (.sl I)) .unit)) (.o (.p (.o (.o .i)) .i)) t2, .val (.ptr (.pair (.sl (.sl I)) .unit)) (.o (.p (.o (.o .i)) .i)) p3, .val I .i x4, .val (.sl I) (.o .i) list5, .u, .u, .u, .u, .val I .i t10, .val I .i t11, .u, .u, .u, .u, .val I .i t16, .val I .i t17] ++ List.replicate 22 .u) K
noncomputable abbrev zz44_z : Ex → St → Option (Y2 × Unit) := finish (A_zz44) S_zz44 Try.f68.results.toList
noncomputable abbrev zz44_X3 (kX : St → Option (Y2 × Unit)) : Y2 → Y2 → Option (Y2 × Unit) := fun (t2 : Y2) (p3 : Y2) => kX ([.u, .u, .val (.ptr (.pair (.sl (.sl I)) .unit)) (.o (.p (.o (.o .i)) .i)) t2, .val (.ptr (.pair (.sl (.sl I)) .unit)) (.o (.p (.o (.o .i)) .i)) p3] ++ List.replicate 36 .u)
noncomputable abbrev zz44_E3 (kX : St → Option (Y2 × Unit)) (kO : Nat → St → Option (Y2 × Unit)) : Ex → St → Option (Y2 × Unit) := exK zz44_z 0 ((A_zz44).shape 29) kX kO
noncomputable abbrev zz44_X7 (kX : St → Option (Y2 × Unit)) : Y5 → Y2 → Y2 → Y4 → Int → Int → Option (Y2 × Unit) := fun (o0 : Y5) (t2 : Y2) (p3 : Y2) (list5 : Y4) (t10 : Int) (t11 : Int) => kX ([.val (.sl (.sl .bool)) .i o0, .u, .val (.ptr (.pair (.sl (.sl I)) .unit)) (.o (.p (.o (.o .i)) .i)) t2, .val (.ptr (.pair (.sl (.sl I)) .unit)) (.o (.p (.o (.o .i)) .i)) p3, .u, .val (.sl I) (.o .i) list5, .u, .u, .u, .u, .val I .i t10, .val I .i t11] ++ List.replicate 28 .u)
noncomputable abbrev zz44_E7 (kX : St → Option (Y2 × Unit)) (kO : Nat → St → Option (Y2 × Unit)) : Ex → St → Option (Y2 × Unit) := exK zz44_z 2 ((A_zz44).shape 25) kX kO
theorem zz44_step7 (N : Nat) (m : Nat) (kX : St → Option (Y2 × Unit)) (kO : Nat → St → Option (Y2 × Unit)) (o0 : Y5) (t2 : Y2) (p3 : Y2) (x4 : Int) (list5 : Y4) (t10 : Int) (t11 : Int) (t16 : Int) (t17 : Int) : zz44_R7 N (m + 1) (zz44_E7 kX kO) o0 t2 p3 x4 list5 t10 t11 t16 t17 = zz44_b7 (zz44_R7 N m (zz44_E7 kX kO)) (zz44_X7 kX) o0 t2 p3 x4 list5 t10 t11 t16 t17 := by kernel_rfl
theorem zz44_iter7 (N : Nat) (kX : St → Option (Y2 × Unit)) (kO : Nat → St → Option (Y2 × Unit)) : ∀ (n : Nat) (o0 : Y5) (t2 : Y2) (p3 : Y2) (x4 : Int) (list5 : Y4) (t10 : Int) (t11 : Int) (t16 : Int) (t17 : Int), zz44_R7 N n (zz44_E7 kX kO) o0 t2 p3 x4 list5 t10 t11 t16 t17 = zz44_l7 N (zz44_X7 kX) n o0 t2 p3 x4 list5 t10 t11 t16 t17
  | 0, _, _, _, _, _, _, _, _, _ => rfl
  | m + 1, o0, t2, p3, x4, list5, t10, t11, t16, t17 => by
    have hrec : zz44_R7 N m (zz44_E7 kX kO) = (zz44_l7 N (zz44_X7 kX) m) := (funext fun o0 => (funext fun t2 => (funext fun p3 => (funext fun x4 => (funext fun list5 => (funext fun t10 => (funext fun t11 => (funext fun t16 => (funext fun t17 => zz44_iter7 N kX kO m o0 t2 p3 x4 list5 t10 t11 t16 t17)))))))))
    refine (zz44_step7 N m kX kO o0 t2 p3 x4 list5 t10 t11 t16 t17).trans ?_
    rw [hrec]
    rfl
noncomputable abbrev zz44_K7 (N : Nat) (m : Nat) (kX : St → Option (Y2 × Unit)) (kO : Nat → St → Option (Y2 × Unit)) : Ex → St → Option (Y2 × Unit) := (blockK 2 (seqK ((A_zz44).shape 25) (run (A_zz44) N (codeAt Try.f68 [1, 1, 0, 1, 0, 0, 1, 1, 0, 0, 1, 1, 1])) (blockK 1 (seqK ((A_zz44).shape 27) (run (A_zz44) N (codeAt Try.f68 [1, 1, 0, 1, 0, 0, 1, 1, 1])) (iterK ((A_zz44).shape 6) (run (A_zz44) N (codeAt Try.f68 [1, 1, 0, 1, 0, 0])) m (zz44_E3 kX kO))))))
noncomputable abbrev zz44_k7 (N : Nat) (m : Nat) (kX : St → Option (Y2 × Unit)) (kO : Nat → St → Option (Y2 × Unit)) : St → Option (Y2 × Unit) := fun st' => run (A_zz44) N (codeAt Try.f68 [1, 1, 0, 1, 0, 0, 1, 1, 0, 0, 1, 1, 1]) st' (blockK 1 (seqK ((A_zz44).shape 27) (run (A_zz44) N (codeAt Try.f68 [1, 1, 0, 1, 0, 0, 1, 1, 1])) (iterK ((A_zz44).shape 6) (run (A_zz44) N (codeAt Try.f68 [1, 1, 0, 1, 0, 0])) m (zz44_E3 kX kO))))
theorem zz44_after7 (N : Nat) (m : Nat) (kX : St → Option (Y2 × Unit)) (kO : Nat → St → Option (Y2 × Unit)) (o0 : Y5) (t2 : Y2) (p3 : Y2) (list5 : Y4) (t10 : Int) (t11 : Int) : zz44_X7 (zz44_k7 N m kX kO) o0 t2 p3 list5 t10 t11 = zz44_a7 (zz44_R3 N m (zz44_E3 kX kO)) o0 t2 p3 list5 t10 t11 := by kernel_rfl
theorem zz44_in7 (N : Nat) (m : Nat) (kX : St → Option (Y2 × Unit)) (kO : Nat → St → Option (Y2 × Unit)) (recF : Y5 → Y2 → Y2 → Int → Int → Option (Y2 × Unit)) (hrec : zz44_R3 N m (zz44_E3 kX kO) = recF) (o0 : Y5) (t2 : Y2) (p3 : Y2) (x4 : Int) (list5 : Y4) (t10 : Int) (t11 : Int) (t16 : Int) (t17 : Int) : zz44_R7 N N (zz44_K7 N m kX kO) o0 t2 p3 x4 list5 t10 t11 t16 t17 = zz44_F7 N recF (zz44_X3 kX) o0 t2 p3 x4 list5 t10 t11 t16 t17 :=
  have h : zz44_X7 (zz44_k7 N m kX kO) = (zz44_a7 recF) := (funext fun o0 => (funext fun t2 => (funext fun p3 => (funext fun list5 => (funext fun t10 => (funext fun t11 => (zz44_after7 N m kX kO o0 t2 p3 list5 t10 t11).trans (by rw [hrec])))))))
  ((iter_ex (fun st => by kernel_rfl) (fun st => by kernel_rfl)).trans (zz44_iter7 N (zz44_k7 N m kX kO) (fun j st => (zz44_K7 N m kX kO) (.exit j) st) N o0 t2 p3 x4 list5 t10 t11 t16 t17)).trans (congrArg (fun k => zz44_l7 N k N o0 t2 p3 x4 list5 t10 t11 t16 t17) h)
theorem zz44_step3 (N : Nat) (m : Nat) (kX : St → Option (Y2 × Unit)) (kO : Nat → St → Option (Y2 × Unit)) (o0 : Y5) (t2 : Y2) (p3 : Y2) (t10 : Int) (t11 : Int) : zz44_R3 N (m + 1) (zz44_E3 kX kO) o0 t2 p3 t10 t11 = zz44_b3 (zz44_R7 N N (zz44_K7 N m kX kO)) (zz44_X3 kX) o0 t2 p3 t10 t11 := by kernel_rfl
theorem zz44_iter3 (N : Nat) (kX : St → Option (Y2 × Unit)) (kO : Nat → St → Option (Y2 × Unit)) : ∀ (n : Nat) (o0 : Y5) (t2 : Y2) (p3 : Y2) (t10 : Int) (t11 : Int), zz44_R3 N n (zz44_E3 kX kO) o0 t2 p3 t10 t11 = zz44_l3 N (zz44_X3 kX) n o0 t2 p3 t10 t11
  | 0, _, _, _, _, _ => rfl
  | m + 1, o0, t2, p3, t10, t11 => by
    have hrec : zz44_R3 N m (zz44_E3 kX kO) = (zz44_l3 N (zz44_X3 kX) m) := (funext fun o0 => (funext fun t2 => (funext fun p3 => (funext fun t10 => (funext fun t11 => zz44_iter3 N kX kO m o0 t2 p3 t10 t11)))))
    refine (zz44_step3 N m kX kO o0 t2 p3 t10 t11).trans ?_
    rw [(funext fun o0 => (funext fun t2 => (funext fun p3 => (funext fun x4 => (funext fun list5 => (funext fun t10 => (funext fun t11 => (funext fun t16 => (funext fun t17 => zz44_in7 N m kX kO (zz44_l3 N (zz44_X3 kX) m) hrec o0 t2 p3 x4 list5 t10 t11 t16 t17)))))))))]
    rfl
noncomputable abbrev zz44_K3 (N : Nat) : Ex → St → Option (Y2 × Unit) := (blockK 0 (seqK ((A_zz44).shape 29) (run (A_zz44) N (codeAt Try.f68 [1, 1, 1])) zz44_z))
noncomputable abbrev zz44_k3 (N : Nat) : St → Option (Y2 × Unit) := fun st' => run (A_zz44) N (codeAt Try.f68 [1, 1, 1]) st' zz44_z
theorem zz44_after3 (N : Nat) (t2 : Y2) (p3 : Y2) : zz44_X3 (zz44_k3 N) t2 p3 = zz44_a3 t2 p3 := by kernel_rfl
theorem zz44_in3 (N : Nat) (o0 : Y5) (t2 : Y2) (p3 : Y2) (t10 : Int) (t11 : Int) : zz44_R3 N N (zz44_K3 N) o0 t2 p3 t10 t11 = zz44_F3 N o0 t2 p3 t10 t11 :=
  have h : zz44_X3 (zz44_k3 N) = (zz44_a3) := (funext fun t2 => (funext fun p3 => zz44_after3 N t2 p3))
  ((iter_ex (fun st => by kernel_rfl) (fun st => by kernel_rfl)).trans (zz44_iter3 N (zz44_k3 N) (fun j st => (zz44_K3 N) (.exit j) st) N o0 t2 p3 t10 t11)).trans (congrArg (fun k => zz44_l3 N k N o0 t2 p3 t10 t11) h)
theorem run0_zz44 (N : Nat) (x : (S_zz44).a.den) : runF (A_zz44) N Try.f68 S_zz44 x = (zz44_s (zz44_R3 N N (zz44_K3 N)) x.1) := by kernel_rfl
theorem run_zz44 (N : Nat) (x : (S_zz44).a.den) : runF (A_zz44) N Try.f68 S_zz44 x = zz44 N x.1 := by
  refine (run0_zz44 N x).trans ?_
  rw [(funext fun o0 => (funext fun t2 => (funext fun p3 => (funext fun t10 => (funext fun t11 => zz44_in3 N o0 t2 p3 t10 t11)))))]
  rfl
theorem fn_zz44 : FnOk Try.prog 68 := ⟨_, Try.func68, by kernel_rfl, by kernel_rfl⟩
theorem good_zz44 : Gx.Good Try.prog 68 S_zz44 := good_of_run Try.func68 (of_decide_eq_true (by kernel_rfl)) fun x r h => ⟨A_zz44, big, mkCfg_ok tabOk, mkCfg_sigs (show SigsOk Try.prog [] from trivial), (run_zz44 big x).trans h⟩

/-! zz45 -/
def zz45_b2 (rec : Y4 → Int → Option (Bool × Unit)) (k : Option (Bool × Unit)) (list0 : Y4) (i3 : Int) : Option (Bool × Unit) :=
  cond (decide (i3 < (list0.length : Int)))
  ((atI list0 (IntKind.i64.wrap (i3 - (1 : Int)))).bind fun xq1 =>
  (atI list0 i3).bind fun xq2 =>
  cond (decide (xq2 ≤ xq1))
  (some (false, (())))
  (rec list0 (IntKind.i64.wrap (i3 + (1 : Int)))))
  (k)
def zz45_a2 : Option (Bool × Unit) :=
  some (true, (()))
def zz45_s (L2 : Y4 → Int → Option (Bool × Unit)) (list_0 : Y4) : Option (Bool × Unit) :=
  L2 list_0 (1 : Int)
def zz45_l2 (N : Nat) (k : Option (Bool × Unit)) : Nat → Y4 → Int → Option (Bool × Unit)
  | 0, _, _ => none
  | m + 1, list0, i3 => zz45_b2 (zz45_l2 N k m) k list0 i3
def zz45_F2 (N : Nat) (list0 : Y4) (i3 : Int) : Option (Bool × Unit) := zz45_l2 N (zz45_a2) N list0 i3
def zz45 (N : Nat) (list_0 : Y4) : Option (Bool × Unit) := zz45_s (zz45_F2 N) list_0
def S_zz45 : Sig := { a := (.pair (.sl I) .unit), md := [0], mf := [], m := .unit, r := .bool, rf := .i, f := fun x => zz45 big x.1 }
def A_zz45 : Cfg := mkCfg tab [] [(4, [.as (.sl I) .i, .drop, .drop, .as I .i]), (13, [])]
noncomputable def zz45_R2 (N n : Nat) (K : Ex → St → Option (Bool × Unit)) (list0 : Y4) (i3 : Int) : Option (Bool × Unit) := iter ((A_zz45).shape 4) (run (A_zz45) N (codeAt Try.f129 [1, 0, 1, 0, 0])) n ([.val (.sl I) .i list0, .u, .u, .val I .i i3] ++ List.replicate 16 .u) K
noncomputable abbrev zz45_z : Ex → St → Option (Bool × Unit) := finish (A_zz45) S_zz45 Try.f129.results.toList
noncomputable abbrev zz45_X2 (kX : St → Option (Bool × Unit)) : Option (Bool × Unit) := kX ([] ++ List.replicate 20 .u)
noncomputable abbrev zz45_E2 (kX : St → Option (Bool × Unit)) (kO : Nat → St → Option (Bool × Unit)) : Ex → St → Option (Bool × Unit) := exK zz45_z 0 ((A_zz45).shape 13) kX kO
theorem zz45_step2 (N : Nat) (m : Nat) (kX : St → Option (Bool × Unit)) (kO : Nat → St → Option (Bool × Unit)) (list0 : Y4) (i3 : Int) : zz45_R2 N (m + 1) (zz45_E2 kX kO) list0 i3 = zz45_b2 (zz45_R2 N m (zz45_E2 kX kO)) (zz45_X2 kX) list0 i3 := by kernel_rfl
theorem zz45_iter2 (N : Nat) (kX : St → Option (Bool × Unit)) (kO : Nat → St → Option (Bool × Unit)) : ∀ (n : Nat) (list0 : Y4) (i3 : Int), zz45_R2 N n (zz45_E2 kX kO) list0 i3 = zz45_l2 N (zz45_X2 kX) n list0 i3
  | 0, _, _ => rfl
  | m + 1, list0, i3 => by
    have hrec : zz45_R2 N m (zz45_E2 kX kO) = (zz45_l2 N (zz45_X2 kX) m) := (funext fun list0 => (funext fun i3 => zz45_iter2 N kX kO m list0 i3))
    refine (zz45_step2 N m kX kO list0 i3).trans ?_
    rw [hrec]
    rfl
noncomputable abbrev zz45_K2 (N : Nat) : Ex → St → Option (Bool × Unit) := (blockK 0 (seqK ((A_zz45).shape 13) (run (A_zz45) N (codeAt Try.f129 [1, 1])) zz45_z))
noncomputable abbrev zz45_k2 (N : Nat) : St → Option (Bool × Unit) := fun st' => run (A_zz45) N (codeAt Try.f129 [1, 1]) st' zz45_z
theorem zz45_after2 (N : Nat) : zz45_X2 (zz45_k2 N) = zz45_a2 := by kernel_rfl
theorem zz45_in2 (N : Nat) (list0 : Y4) (i3 : Int) : zz45_R2 N N (zz45_K2 N) list0 i3 = zz45_F2 N list0 i3 :=
  have h : zz45_X2 (zz45_k2 N) = (zz45_a2) := zz45_after2 N
  ((iter_ex (fun st => by kernel_rfl) (fun st => by kernel_rfl)).trans (zz45_iter2 N (zz45_k2 N) (fun j st => (zz45_K2 N) (.exit j) st) N list0 i3)).trans (congrArg (fun k => zz45_l2 N k N list0 i3) h)
theorem run0_zz45 (N : Nat) (x : (S_zz45).a.den) : runF (A_zz45) N Try.f129 S_zz45 x = (zz45_s (zz45_R2 N N (zz45_K2 N)) x.1) := by kernel_rfl
theorem run_zz45 (N : Nat) (x : (S_zz45).a.den) : runF (A_zz45) N Try.f129 S_zz45 x = zz45 N x.1 := by
  refine (run0_zz45 N x).trans ?_
  rw [(funext fun list0 => (funext fun i3 => zz45_in2 N list0 i3))]
  rfl
theorem fn_zz45 : FnOk Try.prog 129 := ⟨_, Try.func129, by kernel_rfl, by kernel_rfl⟩
theorem good_zz45 : Gx.Good Try.prog 129 S_zz45 := good_of_run Try.func129 (of_decide_eq_true (by kernel_rfl)) fun x r h => ⟨A_zz45, big, mkCfg_ok tabOk, mkCfg_sigs (show SigsOk Try.prog [] from trivial), (run_zz45 big x).trans h⟩

/-! zz46 -/
def zz46_b12 (rec : Y5 → Int → Int → Int → Int → Int → Int → Int → Int → Option (Bool × Unit)) (k : Y5 → Int → Int → Int → Int → Int → Option (Bool × Unit)) (o0 : Y5) (x3 : Int) (y4 : Int) (t7 : Int) (t8 : Int) (t20 : Int) (t21 : Int) (t46 : Int) (t47 : Int) : Option (Bool × Unit) :=
  cond (decide (t47 < t46))
  ((atI o0 x3).bind fun xq7 =>
  (atI xq7 y4).bind fun xq8 =>
  cond xq8
  ((atI o0 y4).bind fun xq9 =>
  (atI xq9 t47).bind fun xq10 =>
  cond xq10
  ((atI o0 x3).bind fun xq11 =>
  (atI xq11 t47).bind fun xq12 =>
  cond (!xq12)
  (some (false, (())))
  (rec o0 x3 y4 t7 t8 t20 t21 t46 (IntKind.i64.wrap (t47 + (1 : Int)))))
  (rec o0 x3 y4 t7 t8 t20 t21 t46 (IntKind.i64.wrap (t47 + (1 : Int)))))
  (rec o0 x3 y4 t7 t8 t20 t21 t46 (IntKind.i64.wrap (t47 + (1 : Int)))))
  (k o0 x3 t7 t8 t20 t21)
def zz46_a12 (rec : Y5 → Int → Int → Int → Int → Int → Option (Bool × Unit)) (o0 : Y5) (x3 : Int) (t7 : Int) (t8 : Int) (t20 : Int) (t21 : Int) : Option (Bool × Unit) :=
  rec o0 x3 t7 t8 t20 (IntKind.i64.wrap (t21 + (1 : Int)))
def zz46_b7 (L12 : Y5 → Int → Int → Int → Int → Int → Int → Int → Int → Option (Bool × Unit)) (k : Y5 → Int → Int → Option (Bool × Unit)) (o0 : Y5) (x3 : Int) (t7 : Int) (t8 : Int) (t20 : Int) (t21 : Int) : Option (Bool × Unit) :=
  cond (decide (t21 < t20))
  (cond (decide (x3 ≠ t21))
  ((atI o0 x3).bind fun xq3 =>
  (atI xq3 t21).bind fun xq4 =>
  cond xq4
  ((atI o0 t21).bind fun xq5 =>
  (atI xq5 x3).bind fun xq6 =>
  cond xq6
  (some (false, (())))
  (L12 o0 x3 t21 t7 t8 t20 t21 (o0.length : Int) (0 : Int)))
  (L12 o0 x3 t21 t7 t8 t20 t21 (o0.length : Int) (0 : Int)))
  (L12 o0 x3 t21 t7 t8 t20 t21 (o0.length : Int) (0 : Int)))
  (k o0 t7 t8)
def zz46_a7 (rec : Y5 → Int → Int → Option (Bool × Unit)) (o0 : Y5) (t7 : Int) (t8 : Int) : Option (Bool × Unit) :=
  rec o0 t7 (IntKind.i64.wrap (t8 + (1 : Int)))
def zz46_b2 (L7 : Y5 → Int → Int → Int → Int → Int → Option (Bool × Unit)) (k : Option (Bool × Unit)) (o0 : Y5) (t7 : Int) (t8 : Int) : Option (Bool × Unit) :=
  cond (decide (t8 < t7))
  ((atI o0 t8).bind fun xq1 =>
  (atI xq1 t8).bind fun xq2 =>
  cond (!xq2)
  (some (false, (())))
  (L7 o0 t8 t7 t8 (o0.length : Int) (0 : Int)))
  (k)
def zz46_a2 : Option (Bool × Unit) :=
  some (true, (()))
def zz46_s (L2 : Y5 → Int → Int → Option (Bool × Unit)) (o_0 : Y5) : Option (Bool × Unit) :=
  L2 o_0 (o_0.length : Int) (0 : Int)
def zz46_l12 (N : Nat) (k : Y5 → Int → Int → Int → Int → Int → Option (Bool × Unit)) : Nat → Y5 → Int → Int → Int → Int → Int → Int → Int → Int → Option (Bool × Unit)
  | 0, _, _, _, _, _, _, _, _, _ => none
  | m + 1, o0, x3, y4, t7, t8, t20, t21, t46, t47 => zz46_b12 (zz46_l12 N k m) k o0 x3 y4 t7 t8 t20 t21 t46 t47
def zz46_F12 (N : Nat) (rec : Y5 → Int → Int → Int → Int → Int → Option (Bool × Unit)) (k : Y5 → Int → Int → Option (Bool × Unit)) (o0 : Y5) (x3 : Int) (y4 : Int) (t7 : Int) (t8 : Int) (t20 : Int) (t21 : Int) (t46 : Int) (t47 : Int) : Option (Bool × Unit) := zz46_l12 N (zz46_a12 rec) N o0 x3 y4 t7 t8 t20 t21 t46 t47
def zz46_l7 (N : Nat) (k : Y5 → Int → Int → Option (Bool × Unit)) : Nat → Y5 → Int → Int → Int → Int → Int → Option (Bool × Unit)
  | 0, _, _, _, _, _, _ => none
  | m + 1, o0, x3, t7, t8, t20, t21 => zz46_b7 (zz46_F12 N (zz46_l7 N k m) k) k o0 x3 t7 t8 t20 t21
def zz46_F7 (N : Nat) (rec : Y5 → Int → Int → Option (Bool × Unit)) (k : Option (Bool × Unit)) (o0 : Y5) (x3 : Int) (t7 : Int) (t8 : Int) (t20 : Int) (t21 : Int) : Option (Bool × Unit) := zz46_l7 N (zz46_a7 rec) N o0 x3 t7 t8 t20 t21
def zz46_l2 (N : Nat) (k : Option (Bool × Unit)) : Nat → Y5 → Int → Int → Option (Bool × Unit)
  | 0, _, _, _ => none
  | m + 1, o0, t7, t8 => zz46_b2 (zz46_F7 N (zz46_l2 N k m) k) k o0 t7 t8
def zz46_F2 (N : Nat) (o0 : Y5) (t7 : Int) (t8 : Int) : Option (Bool × Unit) := zz46_l2 N (zz46_a2) N o0 t7 t8
def zz46 (N : Nat) (o_0 : Y5) : Option (Bool × Unit) := zz46_s (zz46_F2 N) o_0
def S_zz46 : Sig := { a := (.pair (.sl (.sl .bool)) .unit), md := [0], mf := [], m := .unit, r := .bool, rf := .i, f := fun x => zz46 big x.1 }
def A_zz46 : Cfg := mkCfg tab [] [(4, [.as (.sl (.sl .bool)) .i, .drop, .drop, .drop, .drop, .drop, .drop, .as I .i, .as I .i]), (14, [.as (.sl (.sl .bool)) .i, .drop, .drop, .as I .i, .drop, .drop, .drop, .as I .i, .as I .i, .drop, .drop, .drop, .drop, .drop, .drop, .drop, .drop, .drop, .drop, .drop, .as I .i, .as I .i]), (39, []), (24, [.as (.sl (.sl .bool)) .i, .drop, .drop, .as I .i, .as I .i, .drop, .drop, .as I .i, .as I .i, .drop, .drop, .drop, .drop, .drop, .drop, .drop, .drop, .drop, .drop, .drop, .as I .i, .as I .i, .drop, .drop, .drop, .drop, .drop, .drop, .drop, .drop, .drop, .drop, .drop, .drop, .drop, .drop, .drop, .drop, .drop, .drop, .drop, .drop, .drop, .drop, .drop, .drop, .as I .i, .as I .i]), (37, [.as (.sl (.sl .bool)) .i, .drop, .drop, .drop, .drop, .drop, .drop, .as I .i, .as I .i]), (35, [.as (.sl (.sl .bool)) .i, .drop, .drop, .as I .i, .drop, .drop, .drop, .as I .i, .as I .i, .drop, .drop, .drop, .drop, .drop, .drop, .drop, .drop, .drop, .drop, .drop, .as I .i, .as I .i])]
noncomputable def zz46_R2 (N n : Nat) (K : Ex → St → Option (Bool × Unit)) (o0 : Y5) (t7 : Int) (t8 : Int) : Option (Bool × Unit) := iter ((A_zz46).shape 4) (run (A_zz46) N (codeAt Try.f130 [1, 0, 1, 0, 0])) n ([.val (.sl (.sl .bool)) .i o0, .u, .u, .u, .u, .u, .u, .val I .i t7, .val I .i t8] ++ List.replicate 70 .u) K
noncomputable def zz46_R7 (N n : Nat) (K : Ex → St → Option (Bool × Unit)) (o0 : Y5) (x3 : Int) (t7 : Int) (t8 : Int) (t20 : Int) (t21 : Int) : Option (Bool × Unit) := iter ((A_zz46).shape 14) (run (A_zz46) N (codeAt Try.f130 [1, 0, 1, 0, 0, 1, 1, 0, 0, 1, 1, 1, 0, 0])) n ([.val (.sl (.sl .bool)) .i o0, .u, .u, .val I .i x3, .u, .u, .u, .val I .i t7, .val I .i t8, .u, .u, .u, .u, .u, .u, .u, .u, .u, .u, .u, .val I .i t20, .val I .i t21] ++ List.replicate 57 .u) K
noncomputable def zz46_R12 (N n : Nat) (K : Ex → St → Option (Bool × Unit)) (o0 : Y5) (x3 : Int) (y4 : Int) (t7 : Int) (t8 : Int) (t20 : Int) (t21 : Int) (t46 : Int) (t47 : Int) : Option (Bool × Unit) := iter ((A_zz46).shape 24) (run (A_zz46) N (codeAt Try.f130 [1, 0, 1, 0, 0, 1, 1, 0, 0, 1, 1, 1, 0, 0, 1, 1, 0, 0, 1, 1, 1, 0, 0])) n ([.val (.sl (.sl .bool)) .i o0, .u, .u, .val I .i x3, .val I .i y4, .u, .u, .val I .i t7, .val I .i t8, .u, .u, .u, .u, .u, .u, .u, .u, .u, .u, .u, .val I .i t20, .val I .i t21, .u, .u, .u, .u, .u, .u, .u, .u, .u, .u, .u, .u, .u, .u, .u, .u, .u, .u, .u, .u, .u, .u, .u, .u, .val I .i t46, .val I .i t47] ++ List.replicate 31 .u) K
noncomputable abbrev zz46_z : Ex → St → Option (Bool × Unit) := finish (A_zz46) S_zz46 Try.f130.results.toList
noncomputable abbrev zz46_X2 (kX : St → Option (Bool × Unit)) : Option (Bool × Unit) := kX ([] ++ List.replicate 79 .u)
noncomputable abbrev zz46_E2 (kX : St → Option (Bool × Unit)) (kO : Nat → St → Option (Bool × Unit)) : Ex → St → Option (Bool × Unit) := exK zz46_z 0 ((A_zz46).shape 39) kX kO
noncomputable abbrev zz46_X7 (kX : St → Option (Bool × Unit)) : Y5 → Int → Int → Option (Bool × Unit) := fun (o0 : Y5) (t7 : Int) (t8 : Int) => kX ([.val (.sl (.sl .bool)) .i o0, .u, .u, .u, .u, .u, .u, .val I .i t7, .val I .i t8] ++ List.replicate 70 .u)
noncomputable abbrev zz46_E7 (kX : St → Option (Bool × Unit)) (kO : Nat → St → Option (Bool × Unit)) : Ex → St → Option (Bool × Unit) := exK zz46_z 2 ((A_zz46).shape 37) kX kO
noncomputable abbrev zz46_X12 (kX : St → Option (Bool × Unit)) : Y5 → Int → Int → Int → Int → Int → Option (Bool × Unit) := fun (o0 : Y5) (x3 : Int) (t7 : Int) (t8 : Int) (t20 : Int) (t21 : Int) => kX ([.val (.sl (.sl .bool)) .i o0, .u, .u, .val I .i x3, .u, .u, .u, .val I .i t7, .val I .i t8, .u, .u, .u, .u, .u, .u, .u, .u, .u, .u, .u, .val I .i t20, .val I .i t21] ++ List.replicate 57 .u)
noncomputable abbrev zz46_E12 (kX : St → Option (Bool × Unit)) (kO : Nat → St → Option (Bool × Unit)) : Ex → St → Option (Bool × Unit) := exK zz46_z 4 ((A_zz46).shape 35) kX kO
theorem zz46_step12 (N : Nat) (m : Nat) (kX : St → Option (Bool × Unit)) (kO : Nat → St → Option (Bool × Unit)) (o0 : Y5) (x3 : Int) (y4 : Int) (t7 : Int) (t8 : Int) (t20 : Int) (t21 : Int) (t46 : Int) (t47 : Int) : zz46_R12 N (m + 1) (zz46_E12 kX kO) o0 x3 y4 t7 t8 t20 t21 t46 t47 = zz46_b12 (zz46_R12 N m (zz46_E12 kX kO)) (zz46_X12 kX) o0 x3 y4 t7 t8 t20 t21 t46 t47 := by kernel_rfl
theorem zz46_iter12 (N : Nat) (kX : St → Option (Bool × Unit)) (kO : Nat → St → Option (Bool × Unit)) : ∀ (n : Nat) (o0 : Y5) (x3 : Int) (y4 : Int) (t7 : Int) (t8 : Int) (t20 : Int) (t21 : Int) (t46 : Int) (t47 : Int), zz46_R12 N n (zz46_E12 kX kO) o0 x3 y4 t7 t8 t20 t21 t46 t47 = zz46_l12 N (zz46_X12 kX) n o0 x3 y4 t7 t8 t20 t21 t46 t47
  | 0, _, _, _, _, _, _, _, _, _ => rfl
  | m + 1, o0, x3, y4, t7, t8, t20, t21, t46, t47 => by
    have hrec : zz46_R12 N m (zz46_E12 kX kO) = (zz46_l12 N (zz46_X12 kX) m) := (funext fun o0 => (funext fun x3 => (funext fun y4 => (funext fun t7 => (funext fun t8 => (funext fun t20 => (funext fun t21 => (funext fun t46 => (funext fun t47 => zz46_iter12 N kX kO m o0 x3 y4 t7 t8 t20 t21 t46 t47)))))))))
    refine (zz46_step12 N m kX kO o0 x3 y4 t7 t8 t20 t21 t46 t47).trans ?_
    rw [hrec]
    rfl
noncomputable abbrev zz46_K12 (N : Nat) (m : Nat) (kX : St → Option (Bool × Unit)) (kO : Nat → St → Option (Bool × Unit)) : Ex → St → Option (Bool × Unit) := (blockK 4 (blockK 3 (seqK ((A_zz46).shape 35) (run (A_zz46) N (codeAt Try.f130 [1, 0, 1, 0, 0, 1, 1, 0, 0, 1, 1, 1, 0, 0, 1, 1, 1])) (iterK ((A_zz46).shape 14) (run (A_zz46) N (codeAt Try.f130 [1, 0, 1, 0, 0, 1, 1, 0, 0, 1, 1, 1, 0, 0])) m (zz46_E7 kX kO)))))
noncomputable abbrev zz46_k12 (N : Nat) (m : Nat) (kX : St → Option (Bool × Unit)) (kO : Nat → St → Option (Bool × Unit)) : St → Option (Bool × Unit) := fun st' => run (A_zz46) N (codeAt Try.f130 [1, 0, 1, 0, 0, 1, 1, 0, 0, 1, 1, 1, 0, 0, 1, 1, 1]) st' (iterK ((A_zz46).shape 14) (run (A_zz46) N (codeAt Try.f130 [1, 0, 1, 0, 0, 1, 1, 0, 0, 1, 1, 1, 0, 0])) m (zz46_E7 kX kO))
theorem zz46_after12 (N : Nat) (m : Nat) (kX : St → Option (Bool × Unit)) (kO : Nat → St → Option (Bool × Unit)) (o0 : Y5) (x3 : Int) (t7 : Int) (t8 : Int) (t20 : Int) (t21 : Int) : zz46_X12 (zz46_k12 N m kX kO) o0 x3 t7 t8 t20 t21 = zz46_a12 (zz46_R7 N m (zz46_E7 kX kO)) o0 x3 t7 t8 t20 t21 := by kernel_rfl
theorem zz46_in12 (N : Nat) (m : Nat) (kX : St → Option (Bool × Unit)) (kO : Nat → St → Option (Bool × Unit)) (recF : Y5 → Int → Int → Int → Int → Int → Option (Bool × Unit)) (hrec : zz46_R7 N m (zz46_E7 kX kO) = recF) (o0 : Y5) (x3 : Int) (y4 : Int) (t7 : Int) (t8 : Int) (t20 : Int) (t21 : Int) (t46 : Int) (t47 : Int) : zz46_R12 N N (zz46_K12 N m kX kO) o0 x3 y4 t7 t8 t20 t21 t46 t47 = zz46_F12 N recF (zz46_X7 kX) o0 x3 y4 t7 t8 t20 t21 t46 t47 :=
  have h : zz46_X12 (zz46_k12 N m kX kO) = (zz46_a12 recF) := (funext fun o0 => (funext fun x3 => (funext fun t7 => (funext fun t8 => (funext fun t20 => (funext fun t21 => (zz46_after12 N m kX kO o0 x3 t7 t8 t20 t21).trans (by rw [hrec])))))))
  ((iter_ex (fun st => by kernel_rfl) (fun st => by kernel_rfl)).trans (zz46_iter12 N (zz46_k12 N m kX kO) (fun j st => (zz46_K12 N m kX kO) (.exit j) st) N o0 x3 y4 t7 t8 t20 t21 t46 t47)).trans (congrArg (fun k => zz46_l12 N k N o0 x3 y4 t7 t8 t20 t21 t46 t47) h)
theorem zz46_step7 (N : Nat) (m : Nat) (kX : St → Option (Bool × Unit)) (kO : Nat → St → Option (Bool × Unit)) (o0 : Y5) (x3 : Int) (t7 : Int) (t8 : Int) (t20 : Int) (t21 : Int) : zz46_R7 N (m + 1) (zz46_E7 kX kO) o0 x3 t7 t8 t20 t21 = zz46_b7 (zz46_R12 N N (zz46_K12 N m kX kO)) (zz46_X7 kX) o0 x3 t7 t8 t20 t21 := by kernel_rfl
theorem zz46_iter7 (N : Nat) (kX : St → Option (Bool × Unit)) (kO : Nat → St → Option (Bool × Unit)) : ∀ (n : Nat) (o0 : Y5) (x3 : Int) (t7 : Int) (t8 : Int) (t20 : Int) (t21 : Int), zz46_R7 N n (zz46_E7 kX kO) o0 x3 t7 t8 t20 t21 = zz46_l7 N (zz46_X7 kX) n o0 x3 t7 t8 t20 t21
  | 0, _, _, _, _, _, _ => rfl
  | m + 1, o0, x3, t7, t8, t20, t21 => by
    have hrec : zz46_R7 N m (zz46_E7 kX kO) = (zz46_l7 N (zz46_X7 kX) m) := (funext fun o0 => (funext fun x3 => (funext fun t7 => (funext fun t8 => (funext fun t20 => (funext fun t21 => zz46_iter7 N kX kO m o0 x3 t7 t8 t20 t21))))))
    refine (zz46_step7 N m kX kO o0 x3 t7 t8 t20 t21).trans ?_
    rw [(funext fun o0 => (funext fun x3 => (funext fun y4 => (funext fun t7 => (funext fun t8 => (funext fun t20 => (funext fun t21 => (funext fun t46 => (funext fun t47 => zz46_in12 N m kX kO (zz46_l7 N (zz46_X7 kX) m) hrec o0 x3 y4 t7 t8 t20 t21 t46 t47)))))))))]
    rfl
noncomputable abbrev zz46_K7 (N : Nat) (m : Nat) (kX : St → Option (Bool × Unit)) (kO : Nat → St → Option (Bool × Unit)) : Ex → St → Option (Bool × Unit) := (blockK 2 (blockK 1 (seqK ((A_zz46).shape 37) (run (A_zz46) N (codeAt Try.f130 [1, 0, 1, 0, 0, 1, 1, 1])) (iterK ((A_zz46).shape 4) (run (A_zz46) N (codeAt Try.f130 [1, 0, 1, 0, 0])) m (zz46_E2 kX kO)))))
noncomputable abbrev zz46_k7 (N : Nat) (m : Nat) (kX : St → Option (Bool × Unit)) (kO : Nat → St → Option (Bool × Unit)) : St → Option (Bool × Unit) := fun st' => run (A_zz46) N (codeAt Try.f130 [1, 0, 1, 0, 0, 1, 1, 1]) st' (iterK ((A_zz46).shape 4) (run (A_zz46) N (codeAt Try.f130 [1, 0, 1, 0, 0])) m (zz46_E2 kX kO))
theorem zz46_after7 (N : Nat) (m : Nat) (kX : St → Option (Bool × Unit)) (kO : Nat → St → Option (Bool × Unit)) (o0 : Y5) (t7 : Int) (t8 : Int) : zz46_X7 (zz46_k7 N m kX kO) o0 t7 t8 = zz46_a7 (zz46_R2 N m (zz46_E2 kX kO)) o0 t7 t8 := by kernel_rfl
theorem zz46_in7 (N : Nat) (m : Nat) (kX : St → Option (Bool × Unit)) (kO : Nat → St → Option (Bool × Unit)) (recF : Y5 → Int → Int → Option (Bool × Unit)) (hrec : zz46_R2 N m (zz46_E2 kX kO) = recF) (o0 : Y5) (x3 : Int) (t7 : Int) (t8 : Int) (t20 : Int) (t21 : Int) : zz46_R7 N N (zz46_K7 N m kX kO) o0 x3 t7 t8 t20 t21 = zz46_F7 N recF (zz46_X2 kX) o0 x3 t7 t8 t20 t21 :=
  have h : zz46_X7 (zz46_k7 N m kX kO) = (zz46_a7 recF) := (funext fun o0 => (funext fun t7 => (funext fun t8 => (zz46_after7 N m kX kO o0 t7 t8).trans (by rw [hrec]))))
  ((iter_ex (fun st => by kernel_rfl) (fun st => by kernel_rfl)).trans (zz46_iter7 N (zz46_k7 N m kX kO) (fun j st => (zz46_K7 N m kX kO) (.exit j) st) N o0 x3 t7 t8 t20 t21)).trans (congrArg (fun k => zz46_l7 N k N o0 x3 t7 t8 t20 t21) h)
theorem zz46_step2 (N : Nat) (m : Nat) (kX : St → Option (Bool × Unit)) (kO : Nat → St → Option (Bool × Unit)) (o0 : Y5) (t7 : Int) (t8 : Int) : zz46_R2 N (m + 1) (zz46_E2 kX kO) o0 t7 t8 = zz46_b2 (zz46_R7 N N (zz46_K7 N m kX kO)) (zz46_X2 kX) o0 t7 t8 := by kernel_rfl
theorem zz46_iter2 (N : Nat) (kX : St → Option (Bool × Unit)) (kO : Nat → St → Option (Bool × Unit)) : ∀ (n : Nat) (o0 : Y5) (t7 : Int) (t8 : Int), zz46_R2 N n (zz46_E2 kX kO) o0 t7 t8 = zz46_l2 N (zz46_X2 kX) n o0 t7 t8
  | 0, _, _, _ => rfl
  | m + 1, o0, t7, t8 => by
    have hrec : zz46_R2 N m (zz46_E2 kX kO) = (zz46_l2 N (zz46_X2 kX) m) := (funext fun o0 => (funext fun t7 => (funext fun t8 => zz46_iter2 N kX kO m o0 t7 t8)))
    refine (zz46_step2 N m kX kO o0 t7 t8).trans ?_
    rw [(funext fun o0 => (funext fun x3 => (funext fun t7 => (funext fun t8 => (funext fun t20 => (funext fun t21 => zz46_in7 N m kX kO (zz46_l2 N (zz46_X2 kX) m) hrec o0 x3 t7 t8 t20 t21))))))]
    rfl
noncomputable abbrev zz46_K2 (N : Nat) : Ex → St → Option (Bool × Unit) := (blockK 0 (seqK ((A_zz46).shape 39) (run (A_zz46) N (codeAt Try.f130 [1, 1])) zz46_z))
noncomputable abbrev zz46_k2 (N : Nat) : St → Option (Bool × Unit) := fun st' => run (A_zz46) N (codeAt Try.f130 [1, 1]) st' zz46_z
theorem zz46_after2 (N : Nat) : zz46_X2 (zz46_k2 N) = zz46_a2 := by kernel_rfl
theorem zz46_in2 (N : Nat) (o0 : Y5) (t7 : Int) (t8 : Int) : zz46_R2 N N (zz46_K2 N) o0 t7 t8 = zz46_F2 N o0 t7 t8 :=
  have h : zz46_X2 (zz46_k2 N) = (zz46_a2) := zz46_after2 N
  ((iter_ex (fun st => by kernel_rfl) (fun st => by kernel_rfl)).trans (zz46_iter2 N (zz46_k2 N) (fun j st => (zz46_K2 N) (.exit j) st) N o0 t7 t8)).trans (congrArg (fun k => zz46_l2 N k N o0 t7 t8) h)
theorem run0_zz46 (N : Nat) (x : (S_zz46).a.den) : runF (A_zz46) N Try.f130 S_zz46 x = (zz46_s (zz46_R2 N N (zz46_K2 N)) x.1) := by kernel_rfl
theorem run_zz46 (N : Nat) (x : (S_zz46).a.den) : runF (A_zz46) N Try.f130 S_zz46 x = zz46 N x.1 := by
  refine (run0_zz46 N x).trans ?_
  rw [(funext fun o0 => (funext fun t7 => (funext fun t8 => zz46_in2 N o0 t7 t8)))]
  rfl
theorem fn_zz46 : FnOk Try.prog 130 := ⟨_, Try.func130, by kernel_rfl, by kernel_rfl⟩
theorem good_zz46 : Gx.Good Try.prog 130 S_zz46 := good_of_run Try.func130 (of_decide_eq_true (by kernel_rfl)) fun x r h => ⟨A_zz46, big, mkCfg_ok tabOk, mkCfg_sigs (show SigsOk Try.prog [] from trivial), (run_zz46 big x).trans h⟩

/-! zz47 -/
def zz47_b11 (rec : Int → Y5 → Int → Y3 → Int → Int → Y4 → Int → Bool → Bool → Y4 → Int → Int → Option ((Y5 × (Bool × Unit)) × Unit)) (k : Int → Y5 → Y3 → Int → Int → Y4 → Int → Bool → Bool → Option ((Y5 × (Bool × Unit)) × Unit)) (n4 : Int) (o5 : Y5) (x6 : Int) (t18 : Y3) (t19 : Int) (t20 : Int) (t29 : Y4) (t30 : Int) (t31 : Bool) (t32 : Bool) (t34 : Y4) (t35 : Int) (t36 : Int) : Option ((Y5 × (Bool × Unit)) × Unit) :=
  cond (decide (t36 < t35))
  ((atI t34 t36).bind fun xq6 =>
  (atI o5 xq6).bind fun _ =>
  (o5[xq6.toNat]?).bind fun xq7 =>
  (o5[xq6.toNat]?).bind fun xq8 =>
  (atI xq8 x6).bind fun _ =>
  (o5[xq6.toNat]?).bind fun xq9 =>
  (xq9[x6.toNat]?).bind fun xq10 =>
  rec n4 (o5.set xq6.toNat (xq9.set x6.toNat true)) x6 t18 t19 t20 t29 t30 t31 t32 t34 t35 (IntKind.i64.wrap (t36 + (1 : Int))))
  (k n4 o5 t18 t19 t20 t29 t30 t31 t32)
def zz47_a11 (rec : Int → Y5 → Y3 → Int → Int → Option ((Y5 × (Bool × Unit)) × Unit)) (n4 : Int) (o5 : Y5) (t18 : Y3) (t19 : Int) (t20 : Int) (t29 : Y4) (t30 : Int) (t31 : Bool) (t32 : Bool) : Option ((Y5 × (Bool × Unit)) × Unit) :=
  rec n4 o5 t18 t19 (IntKind.i64.wrap (t20 + (1 : Int)))
def zz47_b6 (L11 : Int → Y5 → Int → Y3 → Int → Int → Y4 → Int → Bool → Bool → Y4 → Int → Int → Option ((Y5 × (Bool × Unit)) × Unit)) (k : Y5 → Option ((Y5 × (Bool × Unit)) × Unit)) (n4 : Int) (o5 : Y5) (t18 : Y3) (t19 : Int) (t20 : Int) : Option ((Y5 × (Bool × Unit)) × Unit) :=
  cond (decide (t20 < t19))
  ((atI t18 t20).bind fun xq2 =>
  (zz45 big xq2).bind fun rq3 =>
  cond (!rq3.1)
  (some (([], false, ()), (())))
  ((zz37 big xq2 n4).bind fun rq4 =>
  cond (!rq4.1)
  (some (([], false, ()), (())))
  (L11 n4 o5 t20 t18 t19 t20 xq2 n4 rq4.1 (!rq4.1) xq2 (xq2.length : Int) (0 : Int))))
  (k o5)
def zz47_a6 (o5 : Y5) : Option ((Y5 × (Bool × Unit)) × Unit) :=
  (zz46 big o5).bind fun rq5 =>
  some ((o5, rq5.1, ()), (()))
def zz47_s (L6 : Int → Y5 → Y3 → Int → Int → Option ((Y5 × (Bool × Unit)) × Unit)) (p_0 : Y2) : Option ((Y5 × (Bool × Unit)) × Unit) :=
  cond (decide ((10 : Int) < (p_0.1.length : Int)))
  (some (([], false, ()), (())))
  ((zz42 big (p_0.1.length : Int)).bind fun rq1 =>
  L6 (p_0.1.length : Int) rq1.1 p_0.1 (p_0.1.length : Int) (0 : Int))
def zz47_l11 (N : Nat) (k : Int → Y5 → Y3 → Int → Int → Y4 → Int → Bool → Bool → Option ((Y5 × (Bool × Unit)) × Unit)) : Nat → Int → Y5 → Int → Y3 → Int → Int → Y4 → Int → Bool → Bool → Y4 → Int → Int → Option ((Y5 × (Bool × Unit)) × Unit)
  | 0, _, _, _, _, _, _, _, _, _, _, _, _, _ => none
  | m + 1, n4, o5, x6, t18, t19, t20, t29, t30, t31, t32, t34, t35, t36 => zz47_b11 (zz47_l11 N k m) k n4 o5 x6 t18 t19 t20 t29 t30 t31 t32 t34 t35 t36
def zz47_F11 (N : Nat) (rec : Int → Y5 → Y3 → Int → Int → Option ((Y5 × (Bool × Unit)) × Unit)) (k : Y5 → Option ((Y5 × (Bool × Unit)) × Unit)) (n4 : Int) (o5 : Y5) (x6 : Int) (t18 : Y3) (t19 : Int) (t20 : Int) (t29 : Y4) (t30 : Int) (t31 : Bool) (t32 : Bool) (t34 : Y4) (t35 : Int) (t36 : Int) : Option ((Y5 × (Bool × Unit)) × Unit) := zz47_l11 N (zz47_a11 rec) N n4 o5 x6 t18 t19 t20 t29 t30 t31 t32 t34 t35 t36
def zz47_l6 (N : Nat) (k : Y5 → Option ((Y5 × (Bool × Unit)) × Unit)) : Nat → Int → Y5 → Y3 → Int → Int → Option ((Y5 × (Bool × Unit)) × Unit)
  | 0, _, _, _, _, _ => none
  | m + 1, n4, o5, t18, t19, t20 => zz47_b6 (zz47_F11 N (zz47_l6 N k m) k) k n4 o5 t18 t19 t20
def zz47_F6 (N : Nat) (n4 : Int) (o5 : Y5) (t18 : Y3) (t19 : Int) (t20 : Int) : Option ((Y5 × (Bool × Unit)) × Unit) := zz47_l6 N (zz47_a6) N n4 o5 t18 t19 t20
def zz47 (N : Nat) (p_0 : Y2) : Option ((Y5 × (Bool × Unit)) × Unit) := zz47_s (zz47_F6 N) p_0
def S_zz47 : Sig := { a := (.pair (.pair (.sl (.sl I)) .unit) .unit), md := [0], mf := [], m := .unit, r := (.tup (.pair (.sl (.sl .bool)) (.pair .bool .unit))), rf := (.p (.o (.o .i)) .i), f := fun x => zz47 big x.1 }
def A_zz47 : Cfg := mkCfg tab [(98, S_zz42), (129, S_zz45), (113, S_zz37), (130, S_zz46)] [(12, [.drop, .drop, .drop, .drop, .as I .i, .as (.sl (.sl .bool)) (.o (.o .i)), .drop, .drop, .drop, .drop, .drop, .drop, .drop, .drop, .drop, .drop, .drop, .drop, .as (.sl (.sl I)) .i, .as I .i, .as I .i]), (22, [.drop, .drop, .drop, .drop, .as I .i, .as (.sl (.sl .bool)) (.o (.o .i)), .as I .i, .drop, .drop, .drop, .drop, .drop, .drop, .drop, .drop, .drop, .drop, .drop, .as (.sl (.sl I)) .i, .as I .i, .as I .i, .drop, .drop, .drop, .drop, .drop, .drop, .drop, .drop, .as (.sl I) .i, .as I .i, .as .bool .i, .as .bool .i, .drop, .as (.sl I) .i, .as I .i, .as I .i]), (33, [.drop, .drop, .drop, .drop, .drop, .as (.sl (.sl .bool)) (.o (.o .i))]), (31, [.drop, .drop, .drop, .drop, .as I .i, .as (.sl (.sl .bool)) (.o (.o .i)), .drop, .drop, .drop, .drop, .drop, .drop, .drop, .drop, .drop, .drop, .drop, .drop, .as (.sl (.sl I)) .i, .as I .i, .as I .i, .drop, .drop, .drop, .drop, .drop, .drop, .drop, .drop, .as (.sl I) .i, .as I .i, .as .bool .i, .as .bool .i])]
noncomputable def zz47_R6 (N n : Nat) (K : Ex → St → Option ((Y5 × (Bool × Unit)) × Unit)) (n4 : Int) (o5 : Y5) (t18 : Y3) (t19 : Int) (t20 : Int) : Option ((Y5 × (Bool × Unit)) × Unit) := iter ((A_zz47).shape 12) (run (A_zz47) N (codeAt Try.f110 [1, 1, 1, 1, 0, 1, 0, 0])) n ([.u, .u, .u, .u, .val I .i n4, .val (.sl (.sl .bool)) (.o (.o .i)) o5, .u, .u, .u, .u, .u, .u, .u, .u, .u, .u, .u, .u, .val (.sl (.sl I)) .i t18, .val I .i t19, .val I .i t20] ++ List.replicate 30 .u) K
noncomputable def zz47_R11 (N n : Nat) (K : Ex → St → Option ((Y5 × (Bool × Unit)) × Unit)) (n4 : Int) (o5 : Y5) (x6 : Int) (t18 : Y3) (t19 : Int) (t20 : Int) (t29 : Y4) (t30 : Int) (t31 : Bool) (t32 : Bool) (t34 : Y4) (t35 : Int) (t36 : Int) : Option ((Y5 × (Bool × Unit)) × Unit) := iter ((A_zz47).shape 22) (run (A_zz47) N (codeAt Try.f110 [1, 1, 1, 1, 0, 1, 0, 0, 1, 1, 0, 0, 1, 1, 1, 0, 0])) n ([.u, .u, .u, .u, .val I .i n4, .val (.sl (.sl .bool)) (.o (.o .i)) o5, .val I .i x6, .u, .u, .u, .u, .u, .u, .u, .u, .u, .u, .u, .val (.sl (.sl I)) .i t18, .val I .i t19, .val I .i t20, .u, .u, .u, .u, .u, .u, .u, .u, .val (.sl I) .i t29, .val I .i t30, .val .bool .i t31, .val .bool .i t32, .u, .val (.sl I) .i t34, .val I .i t35, .val I .i t36] ++ List.replicate 14 .u) K
noncomputable abbrev zz47_z : Ex → St → Option ((Y5 × (Bool × Unit)) × Unit) := finish (A_zz47) S_zz47 Try.f110.results.toList
noncomputable abbrev zz47_X6 (kX : St → Option ((Y5 × (Bool × Unit)) × Unit)) : Y5 → Option ((Y5 × (Bool × Unit)) × Unit) := fun (o5 : Y5) => kX ([.u, .u, .u, .u, .u, .val (.sl (.sl .bool)) (.o (.o .i)) o5] ++ List.replicate 45 .u)
noncomputable abbrev zz47_E6 (kX : St → Option ((Y5 × (Bool × Unit)) × Unit)) (kO : Nat → St → Option ((Y5 × (Bool × Unit)) × Unit)) : Ex → St → Option ((Y5 × (Bool × Unit)) × Unit) := exK zz47_z 0 ((A_zz47).shape 33) kX kO
noncomputable abbrev zz47_X11 (kX : St → Option ((Y5 × (Bool × Unit)) × Unit)) : Int → Y5 → Y3 → Int → Int → Y4 → Int → Bool → Bool → Option ((Y5 × (Bool × Unit)) × Unit) := fun (n4 : Int) (o5 : Y5) (t18 : Y3) (t19 : Int) (t20 : Int) (t29 : Y4) (t30 : Int) (t31 : Bool) (t32 : Bool) => kX ([.u, .u, .u, .u, .val I .i n4, .val (.sl (.sl .bool)) (.o (.o .i)) o5, .u, .u, .u, .u, .u, .u, .u, .u, .u, .u, .u, .u, .val (.sl (.sl I)) .i t18, .val I .i t19, .val I .i t20, .u, .u, .u, .u, .u, .u, .u, .u, .val (.sl I) .i t29, .val I .i t30, .val .bool .i t31, .val .bool .i t32] ++ List.replicate 18 .u)
noncomputable abbrev zz47_E11 (kX : St → Option ((Y5 × (Bool × Unit)) × Unit)) (kO : Nat → St → Option ((Y5 × (Bool × Unit)) × Unit)) : Ex → St → Option ((Y5 × (Bool × Unit)) × Unit) := exK zz47_z 2 ((A_zz47).shape 31) kX kO
theorem zz47_step11 (N : Nat) (m : Nat) (kX : St → Option ((Y5 × (Bool × Unit)) × Unit)) (kO : Nat → St → Option ((Y5 × (Bool × Unit)) × Unit)) (n4 : Int) (o5 : Y5) (x6 : Int) (t18 : Y3) (t19 : Int) (t20 : Int) (t29 : Y4) (t30 : Int) (t31 : Bool) (t32 : Bool) (t34 : Y4) (t35 : Int) (t36 : Int) : zz47_R11 N (m + 1) (zz47_E11 kX kO) n4 o5 x6 t18 t19 t20 t29 t30 t31 t32 t34 t35 t36 = zz47_b11 (zz47_R11 N m (zz47_E11 kX kO)) (zz47_X11 kX) n4 o5 x6 t18 t19 t20 t29 t30 t31 t32 t34 t35 t36 := by kernel_rfl
theorem zz47_iter11 (N : Nat) (kX : St → Option ((Y5 × (Bool × Unit)) × Unit)) (kO : Nat → St → Option ((Y5 × (Bool × Unit)) × Unit)) : ∀ (n : Nat) (n4 : Int) (o5 : Y5) (x6 : Int) (t18 : Y3) (t19 : Int) (t20 : Int) (t29 : Y4) (t30 : Int) (t31 : Bool) (t32 : Bool) (t34 : Y4) (t35 : Int) (t36 : Int), zz47_R11 N n (zz47_E11 kX kO) n4 o5 x6 t18 t19 t20 t29 t30 t31 t32 t34 t35 t36 = zz47_l11 N (zz47_X11 kX) n n4 o5 x6 t18 t19 t20 t29 t30 t31 t32 t34 t35 t36
  | 0, _, _, _, _, _, _, _, _, _, _, _, _, _ => rfl
  | m + 1, n4, o5, x6, t18, t19, t20, t29, t30, t31, t32, t34, t35, t36 => by
    have hrec : zz47_R11 N m (zz47_E11 kX kO) = (zz47_l11 N (zz47_X11 kX) m) := (funext fun n4 => (funext fun o5 => (funext fun x6 => (funext fun t18 => (funext fun t19 => (funext fun t20 => (funext fun t29 => (funext fun t30 => (funext fun t31 => (funext fun t32 => (funext fun t34 => (funext fun t35 => (funext fun t36 => zz47_iter11 N kX kO m n4 o5 x6 t18 t19 t20 t29 t30 t31 t32 t34 t35 t36)))))))))))))
    refine (zz47_step11 N m kX kO n4 o5 x6 t18 t19 t20 t29 t30 t31 t32 t34 t35 t36).trans ?_
    rw [hrec]
    rfl
noncomputable abbrev zz47_K11 (N : Nat) (m : Nat) (kX : St → Option ((Y5 × (Bool × Unit)) × Unit)) (kO : Nat → St → Option ((Y5 × (Bool × Unit)) × Unit)) : Ex → St → Option ((Y5 × (Bool × Unit)) × Unit) := (blockK 2 (blockK 1 (seqK ((A_zz47).shape 31) (run (A_zz47) N (codeAt Try.f110 [1, 1, 1, 1, 0, 1, 0, 0, 1, 1, 1])) (iterK ((A_zz47).shape 12) (run (A_zz47) N (codeAt Try.f110 [1, 1, 1, 1, 0, 1, 0, 0])) m (zz47_E6 kX kO)))))
noncomputable abbrev zz47_k11 (N : Nat) (m : Nat) (kX : St → Option ((Y5 × (Bool × Unit)) × Unit)) (kO : Nat → St → Option ((Y5 × (Bool × Unit)) × Unit)) : St → Option ((Y5 × (Bool × Unit)) × Unit) := fun st' => run (A_zz47) N (codeAt Try.f110 [1, 1, 1, 1, 0, 1, 0, 0, 1, 1, 1]) st' (iterK ((A_zz47).shape 12) (run (A_zz47) N (codeAt Try.f110 [1, 1, 1, 1, 0, 1, 0, 0])) m (zz47_E6 kX kO))
theorem zz47_after11 (N : Nat) (m : Nat) (kX : St → Option ((Y5 × (Bool × Unit)) × Unit)) (kO : Nat → St → Option ((Y5 × (Bool × Unit)) × Unit)) (n4 : Int) (o5 : Y5) (t18 : Y3) (t19 : Int) (t20 : Int) (t29 : Y4) (t30 : Int) (t31 : Bool) (t32 : Bool) : zz47_X11 (zz47_k11 N m kX kO) n4 o5 t18 t19 t20 t29 t30 t31 t32 = zz47_a11 (zz47_R6 N m (zz47_E6 kX kO)) n4 o5 t18 t19 t20 t29 t30 t31 t32 := by kernel_rfl
theorem zz47_in11 (N : Nat) (m : Nat) (kX : St → Option ((Y5 × (Bool × Unit)) × Unit)) (kO : Nat → St → Option ((Y5 × (Bool × Unit)) × Unit)) (recF : Int → Y5 → Y3 → Int → Int → Option ((Y5 × (Bool × Unit)) × Unit)) (hrec : zz47_R6 N m (zz47_E6 kX kO) = recF) (n4 : Int) (o5 : Y5) (x6 : Int) (t18 : Y3) (t19 : Int) (t20 : Int) (t29 : Y4) (t30 : Int) (t31 : Bool) (t32 : Bool) (t34 : Y4) (t35 : Int) (t36 : Int) : zz47_R11 N N (zz47_K11 N m kX kO) n4 o5 x6 t18 t19 t20 t29 t30 t31 t32 t34 t35 t36 = zz47_F11 N recF (zz47_X6 kX) n4 o5 x6 t18 t19 t20 t29 t30 t31 t32 t34 t35 t36 :=
  have h : zz47_X11 (zz47_k11 N m kX kO) = (zz47_a11 recF) := (funext fun n4 => (funext fun o5 => (funext fun t18 => (funext fun t19 => (funext fun t20 => (funext fun t29 => (funext fun t30 => (funext fun t31 => (funext fun t32 => (zz47_after11 N m kX kO n4 o5 t18 t19 t20 t29 t30 t31 t32).trans (by rw [hrec]))))))))))
  ((iter_ex (fun st => by kernel_rfl) (fun st => by kernel_rfl)).trans (zz47_iter11 N (zz47_k11 N m kX kO) (fun j st => (zz47_K11 N m kX kO) (.exit j) st) N n4 o5 x6 t18 t19 t20 t29 t30 t31 t32 t34 t35 t36)).trans (congrArg (fun k => zz47_l11 N k N n4 o5 x6 t18 t19 t20 t29 t30 t31 t32 t34 t35 t36) h)
theorem zz47_step6 (N : Nat) (m : Nat) (kX : St → Option ((Y5 × (Bool × Unit)) × Unit)) (kO : Nat → St → Option ((Y5 × (Bool × Unit)) × Unit)) (n4 : Int) (o5 : Y5) (t18 : Y3) (t19 : Int) (t20 : Int) : zz47_R6 N (m + 1) (zz47_E6 kX kO) n4 o5 t18 t19 t20 = zz47_b6 (zz47_R11 N N (zz47_K11 N m kX kO)) (zz47_X6 kX) n4 o5 t18 t19 t20 := by kernel_rfl
theorem zz47_iter6 (N : Nat) (kX : St → Option ((Y5 × (Bool × Unit)) × Unit)) (kO : Nat → St → Option ((Y5 × (Bool × Unit)) × Unit)) : ∀ (n : Nat) (n4 : Int) (o5 : Y5) (t18 : Y3) (t19 : Int) (t20 : Int), zz47_R6 N n (zz47_E6 kX kO) n4 o5 t18 t19 t20 = zz47_l6 N (zz47_X6 kX) n n4 o5 t18 t19 t20
  | 0, _, _, _, _, _ => rfl
  | m + 1, n4, o5, t18, t19, t20 => by
    have hrec : zz47_R6 N m (zz47_E6 kX kO) = (zz47_l6 N (zz47_X6 kX) m) := (funext fun n4 => (funext fun o5 => (funext fun t18 => (funext fun t19 => (funext fun t20 => zz47_iter6 N kX kO m n4 o5 t18 t19 t20)))))
    refine (zz47_step6 N m kX kO n4 o5 t18 t19 t20).trans ?_
    rw [(funext fun n4 => (funext fun o5 => (funext fun x6 => (funext fun t18 => (funext fun t19 => (funext fun t20 => (funext fun t29 => (funext fun t30 => (funext fun t31 => (funext fun t32 => (funext fun t34 => (funext fun t35 => (funext fun t36 => zz47_in11 N m kX kO (zz47_l6 N (zz47_X6 kX) m) hrec n4 o5 x6 t18 t19 t20 t29 t30 t31 t32 t34 t35 t36)))))))))))))]
    rfl
noncomputable abbrev zz47_K6 (N : Nat) : Ex → St → Option ((Y5 × (Bool × Unit)) × Unit) := (blockK 0 (seqK ((A_zz47).shape 33) (run (A_zz47) N (codeAt Try.f110 [1, 1, 1, 1, 1])) zz47_z))
noncomputable abbrev zz47_k6 (N : Nat) : St → Option ((Y5 × (Bool × Unit)) × Unit) := fun st' => run (A_zz47) N (codeAt Try.f110 [1, 1, 1, 1, 1]) st' zz47_z
theorem zz47_after6 (N : Nat) (o5 : Y5) : zz47_X6 (zz47_k6 N) o5 = zz47_a6 o5 := by kernel_rfl
theorem zz47_in6 (N : Nat) (n4 : Int) (o5 : Y5) (t18 : Y3) (t19 : Int) (t20 : Int) : zz47_R6 N N (zz47_K6 N) n4 o5 t18 t19 t20 = zz47_F6 N n4 o5 t18 t19 t20 :=
  have h : zz47_X6 (zz47_k6 N) = (zz47_a6) := (funext fun o5 => zz47_after6 N o5)
  ((iter_ex (fun st => by kernel_rfl) (fun st => by kernel_rfl)).trans (zz47_iter6 N (zz47_k6 N) (fun j st => (zz47_K6 N) (.exit j) st) N n4 o5 t18 t19 t20)).trans (congrArg (fun k => zz47_l6 N k N n4 o5 t18 t19 t20) h)
theorem run0_zz47 (N : Nat) (x : (S_zz47).a.den) : runF (A_zz47) N Try.f110 S_zz47 x = (zz47_s (zz47_R6 N N (zz47_K6 N)) x.1) := by kernel_rfl
theorem run_zz47 (N : Nat) (x : (S_zz47).a.den) : runF (A_zz47) N Try.f110 S_zz47 x = zz47 N x.1 := by
  refine (run0_zz47 N x).trans ?_
  rw [(funext fun n4 => (funext fun o5 => (funext fun t18 => (funext fun t19 => (funext fun t20 => zz47_in6 N n4 o5 t18 t19 t20)))))]
  rfl
theorem fn_zz47 : FnOk Try.prog 110 := ⟨_, Try.func110, by kernel_rfl, by kernel_rfl⟩
theorem good_zz47 : Gx.Good Try.prog 110 S_zz47 := good_of_run Try.func110 (of_decide_eq_true (by kernel_rfl)) fun x r h => ⟨A_zz47, big, mkCfg_ok tabOk, mkCfg_sigs (show SigsOk Try.prog [(98, S_zz42), (129, S_zz45), (113, S_zz37), (130, S_zz46)] from ⟨⟨fn_zz42, good_zz42⟩, ⟨fn_zz45, good_zz45⟩, ⟨fn_zz37, good_zz37⟩, ⟨fn_zz46, good_zz46⟩, trivial⟩), (run_zz47 big x).trans h⟩

/-! zz48 -/
def zz48_b6 (rec : Y5 → Y4 → Int → Bool → Y4 → Int → Int → Y4 → Int → Int → Option (Int × Unit)) (k : Y5 → Y4 → Int → Bool → Y4 → Int → Int → Option (Int × Unit)) (o0 : Y5) (list1 : Y4) (x6 : Int) (top7 : Bool) (t10 : Y4) (t11 : Int) (t12 : Int) (t16 : Y4) (t17 : Int) (t18 : Int) : Option (Int × Unit) :=
  cond (decide (t18 < t17))
  ((atI t16 t18).bind fun xq2 =>
  cond top7
  ((atI o0 xq2).bind fun xq3 =>
  (atI xq3 x6).bind fun xq4 =>
  rec o0 list1 x6 xq4 t10 t11 t12 t16 t17 (IntKind.i64.wrap (t18 + (1 : Int))))
  (rec o0 list1 x6 false t10 t11 t12 t16 t17 (IntKind.i64.wrap (t18 + (1 : Int)))))
  (k o0 list1 x6 top7 t10 t11 t12)
def zz48_a6 (rec : Y5 → Y4 → Y4 → Int → Int → Option (Int × Unit)) (o0 : Y5) (list1 : Y4) (x6 : Int) (top7 : Bool) (t10 : Y4) (t11 : Int) (t12 : Int) : Option (Int × Unit) :=
  cond top7
  (some (x6, (())))
  (rec o0 list1 t10 t11 (IntKind.i64.wrap (t12 + (1 : Int))))
def zz48_b2 (L6 : Y5 → Y4 → Int → Bool → Y4 → Int → Int → Y4 → Int → Int → Option (Int × Unit)) (k : Option (Int × Unit)) (o0 : Y5) (list1 : Y4) (t10 : Y4) (t11 : Int) (t12 : Int) : Option (Int × Unit) :=
  cond (decide (t12 < t11))
  ((atI t10 t12).bind fun xq1 =>
  L6 o0 list1 xq1 true t10 t11 t12 list1 (list1.length : Int) (0 : Int))
  (k)
def zz48_a2 : Option (Int × Unit) :=
  some ((-1 : Int), (()))
def zz48_s (L2 : Y5 → Y4 → Y4 → Int → Int → Option (Int × Unit)) (o_0 : Y5) (list_1 : Y4) : Option (Int × Unit) :=
  L2 o_0 list_1 list_1 (list_1.length : Int) (0 : Int)
def zz48_l6 (N : Nat) (k : Y5 → Y4 → Int → Bool → Y4 → Int → Int → Option (Int × Unit)) : Nat → Y5 → Y4 → Int → Bool → Y4 → Int → Int → Y4 → Int → Int → Option (Int × Unit)
  | 0, _, _, _, _, _, _, _, _, _, _ => none
  | m + 1, o0, list1, x6, top7, t10, t11, t12, t16, t17, t18 => zz48_b6 (zz48_l6 N k m) k o0 list1 x6 top7 t10 t11 t12 t16 t17 t18
def zz48_F6 (N : Nat) (rec : Y5 → Y4 → Y4 → Int → Int → Option (Int × Unit)) (k : Option (Int × Unit)) (o0 : Y5) (list1 : Y4) (x6 : Int) (top7 : Bool) (t10 : Y4) (t11 : Int) (t12 : Int) (t16 : Y4) (t17 : Int) (t18 : Int) : Option (Int × Unit) := zz48_l6 N (zz48_a6 rec) N o0 list1 x6 top7 t10 t11 t12 t16 t17 t18
def zz48_l2 (N : Nat) (k : Option (Int × Unit)) : Nat → Y5 → Y4 → Y4 → Int → Int → Option (Int × Unit)
  | 0, _, _, _, _, _ => none
  | m + 1, o0, list1, t10, t11, t12 => zz48_b2 (zz48_F6 N (zz48_l2 N k m) k) k o0 list1 t10 t11 t12
def zz48_F2 (N : Nat) (o0 : Y5) (list1 : Y4) (t10 : Y4) (t11 : Int) (t12 : Int) : Option (Int × Unit) := zz48_l2 N (zz48_a2) N o0 list1 t10 t11 t12
def zz48 (N : Nat) (o_0 : Y5) (list_1 : Y4) : Option (Int × Unit) := zz48_s (zz48_F2 N) o_0 list_1
def S_zz48 : Sig := { a := (.pair (.sl (.sl .bool)) (.pair (.sl I) .unit)), md := [0, 0], mf := [], m := .unit, r := I, rf := .i, f := fun x => zz48 big x.1 x.2.1 }
def A_zz48 : Cfg := mkCfg tab [] [(4, [.as (.sl (.sl .bool)) .i, .as (.sl I) .i, .drop, .drop, .drop, .drop, .drop, .drop, .drop, .drop, .as (.sl I) .i, .as I .i, .as I .i]), (12, [.as (.sl (.sl .bool)) .i, .as (.sl I) .i, .drop, .drop, .drop, .drop, .as I .i, .as .bool .i, .drop, .drop, .as (.sl I) .i, .as I .i, .as I .i, .drop, .drop, .drop, .as (.sl I) .i, .as I .i, .as I .i]), (27, []), (21, [.as (.sl (.sl .bool)) .i, .as (.sl I) .i, .drop, .drop, .drop, .drop, .as I .i, .as .bool .i, .drop, .drop, .as (.sl I) .i, .as I .i, .as I .i])]
noncomputable def zz48_R2 (N n : Nat) (K : Ex → St → Option (Int × Unit)) (o0 : Y5) (list1 : Y4) (t10 : Y4) (t11 : Int) (t12 : Int) : Option (Int × Unit) := iter ((A_zz48).shape 4) (run (A_zz48) N (codeAt Try.f131 [1, 0, 1, 0, 0])) n ([.val (.sl (.sl .bool)) .i o0, .val (.sl I) .i list1, .u, .u, .u, .u, .u, .u, .u, .u, .val (.sl I) .i t10, .val I .i t11, .val I .i t12] ++ List.replicate 23 .u) K
noncomputable def zz48_R6 (N n : Nat) (K : Ex → St → Option (Int × Unit)) (o0 : Y5) (list1 : Y4) (x6 : Int) (top7 : Bool) (t10 : Y4) (t11 : Int) (t12 : Int) (t16 : Y4) (t17 : Int) (t18 : Int) : Option (Int × Unit) := iter ((A_zz48).shape 12) (run (A_zz48) N (codeAt Try.f131 [1, 0, 1, 0, 0, 1, 1, 0, 0, 1, 1, 0, 1, 0, 0])) n ([.val (.sl (.sl .bool)) .i o0, .val (.sl I) .i list1, .u, .u, .u, .u, .val I .i x6, .val .bool .i top7, .u, .u, .val (.sl I) .i t10, .val I .i t11, .val I .i t12, .u, .u, .u, .val (.sl I) .i t16, .val I .i t17, .val I .i t18] ++ List.replicate 17 .u) K
noncomputable abbrev zz48_z : Ex → St → Option (Int × Unit) := finish (A_zz48) S_zz48 Try.f131.results.toList
noncomputable abbrev zz48_X2 (kX : St → Option (Int × Unit)) : Option (Int × Unit) := kX ([] ++ List.replicate 36 .u)
noncomputable abbrev zz48_E2 (kX : St → Option (Int × Unit)) (kO : Nat → St → Option (Int × Unit)) : Ex → St → Option (Int × Unit) := exK zz48_z 0 ((A_zz48).shape 27) kX kO
noncomputable abbrev zz48_X6 (kX : St → Option (Int × Unit)) : Y5 → Y4 → Int → Bool → Y4 → Int → Int → Option (Int × Unit) := fun (o0 : Y5) (list1 : Y4) (x6 : Int) (top7 : Bool) (t10 : Y4) (t11 : Int) (t12 : Int) => kX ([.val (.sl (.sl .bool)) .i o0, .val (.sl I) .i list1, .u, .u, .u, .u, .val I .i x6, .val .bool .i top7, .u, .u, .val (.sl I) .i t10, .val I .i t11, .val I .i t12] ++ List.replicate 23 .u)
noncomputable abbrev zz48_E6 (kX : St → Option (Int × Unit)) (kO : Nat → St → Option (Int × Unit)) : Ex → St → Option (Int × Unit) := exK zz48_z 2 ((A_zz48).shape 21) kX kO
theorem zz48_step6 (N : Nat) (m : Nat) (kX : St → Option (Int × Unit)) (kO : Nat → St → Option (Int × Unit)) (o0 : Y5) (list1 : Y4) (x6 : Int) (top7 : Bool) (t10 : Y4) (t11 : Int) (t12 : Int) (t16 : Y4) (t17 : Int) (t18 : Int) : zz48_R6 N (m + 1) (zz48_E6 kX kO) o0 list1 x6 top7 t10 t11 t12 t16 t17 t18 = zz48_b6 (zz48_R6 N m (zz48_E6 kX kO)) (zz48_X6 kX) o0 list1 x6 top7 t10 t11 t12 t16 t17 t18 := by kernel_rfl
theorem zz48_iter6 (N : Nat) (kX : St → Option (Int × Unit)) (kO : Nat → St → Option (Int × Unit)) : ∀ (n : Nat) (o0 : Y5) (list1 : Y4) (x6 : Int) (top7 : Bool) (t10 : Y4) (t11 : Int) (t12 : Int) (t16 : Y4) (t17 : Int) (t18 : Int), zz48_R6 N n (zz48_E6 kX kO) o0 list1 x6 top7 t10 t11 t12 t16 t17 t18 = zz48_l6 N (zz48_X6 kX) n o0 list1 x6 top7 t10 t11 t12 t16 t17 t18
  | 0, _, _, _, _, _, _, _, _, _, _ => rfl
  | m + 1, o0, list1, x6, top7, t10, t11, t12, t16, t17, t18 => by
    have hrec : zz48_R6 N m (zz48_E6 kX kO) = (zz48_l6 N (zz48_X6 kX) m) := (funext fun o0 => (funext fun list1 => (funext fun x6 => (funext fun top7 => (funext fun t10 => (funext fun t11 => (funext fun t12 => (funext fun t16 => (funext fun t17 => (funext fun t18 => zz48_iter6 N kX kO m o0 list1 x6 top7 t10 t11 t12 t16 t17 t18))))))))))
    refine (zz48_step6 N m kX kO o0 list1 x6 top7 t10 t11 t12 t16 t17 t18).trans ?_
    rw [hrec]
    rfl
noncomputable abbrev zz48_K6 (N : Nat) (m : Nat) (kX : St → Option (Int × Unit)) (kO : Nat → St → Option (Int × Unit)) : Ex → St → Option (Int × Unit) := (blockK 2 (seqK ((A_zz48).shape 21) (run (A_zz48) N (codeAt Try.f131 [1, 0, 1, 0, 0, 1, 1, 0, 0, 1, 1, 1])) (blockK 1 (seqK ((A_zz48).shape 25) (run (A_zz48) N (codeAt Try.f131 [1, 0, 1, 0, 0, 1, 1, 1])) (iterK ((A_zz48).shape 4) (run (A_zz48) N (codeAt Try.f131 [1, 0, 1, 0, 0])) m (zz48_E2 kX kO))))))
noncomputable abbrev zz48_k6 (N : Nat) (m : Nat) (kX : St → Option (Int × Unit)) (kO : Nat → St → Option (Int × Unit)) : St → Option (Int × Unit) := fun st' => run (A_zz48) N (codeAt Try.f131 [1, 0, 1, 0, 0, 1, 1, 0, 0, 1, 1, 1]) st' (blockK 1 (seqK ((A_zz48).shape 25) (run (A_zz48) N (codeAt Try.f131 [1, 0, 1, 0, 0, 1, 1, 1])) (iterK ((A_zz48).shape 4) (run (A_zz48) N (codeAt Try.f131 [1, 0, 1, 0, 0])) m (zz48_E2 kX kO))))
theorem zz48_after6 (N : Nat) (m : Nat) (kX : St → Option (Int × Unit)) (kO : Nat → St → Option (Int × Unit)) (o0 : Y5) (list1 : Y4) (x6 : Int) (top7 : Bool) (t10 : Y4) (t11 : Int) (t12 : Int) : zz48_X6 (zz48_k6 N m kX kO) o0 list1 x6 top7 t10 t11 t12 = zz48_a6 (zz48_R2 N m (zz48_E2 kX kO)) o0 list1 x6 top7 t10 t11 t12 := by kernel_rfl
theorem zz48_in6 (N : Nat) (m : Nat) (kX : St → Option (Int × Unit)) (kO : Nat → St → Option (Int × Unit)) (recF : Y5 → Y4 → Y4 → Int → Int → Option (Int × Unit)) (hrec : zz48_R2 N m (zz48_E2 kX kO) = recF) (o0 : Y5) (list1 : Y4) (x6 : Int) (top7 : Bool) (t10 : Y4) (t11 : Int) (t12 : Int) (t16 : Y4) (t17 : Int) (t18 : Int) : zz48_R6 N N (zz48_K6 N m kX kO) o0 list1 x6 top7 t10 t11 t12 t16 t17 t18 = zz48_F6 N recF (zz48_X2 kX) o0 list1 x6 top7 t10 t11 t12 t16 t17 t18 :=
  have h : zz48_X6 (zz48_k6 N m kX kO) = (zz48_a6 recF) := (funext fun o0 => (funext fun list1 => (funext fun x6 => (funext fun top7 => (funext fun t10 => (funext fun t11 => (funext fun t12 => (zz48_after6 N m kX kO o0 list1 x6 top7 t10 t11 t12).trans (by rw [hrec]))))))))
  ((iter_ex (fun st => by kernel_rfl) (fun st => by kernel_rfl)).trans (zz48_iter6 N (zz48_k6 N m kX kO) (fun j st => (zz48_K6 N m kX kO) (.exit j) st) N o0 list1 x6 top7 t10 t11 t12 t16 t17 t18)).trans (congrArg (fun k => zz48_l6 N k N o0 list1 x6 top7 t10 t11 t12 t16 t17 t18) h)
theorem zz48_step2 (N : Nat) (m : Nat) (kX : St → Option (Int × Unit)) (kO : Nat → St → Option (Int × Unit)) (o0 : Y5) (list1 : Y4) (t10 : Y4) (t11 : Int) (t12 : Int) : zz48_R2 N (m + 1) (zz48_E2 kX kO) o0 list1 t10 t11 t12 = zz48_b2 (zz48_R6 N N (zz48_K6 N m kX kO)) (zz48_X2 kX) o0 list1 t10 t11 t12 := by kernel_rfl
theorem zz48_iter2 (N : Nat) (kX : St → Option (Int × Unit)) (kO : Nat → St → Option (Int × Unit)) : ∀ (n : Nat) (o0 : Y5) (list1 : Y4) (t10 : Y4) (t11 : Int) (t12 : Int), zz48_R2 N n (zz48_E2 kX kO) o0 list1 t10 t11 t12 = zz48_l2 N (zz48_X2 kX) n o0 list1 t10 t11 t12
  | 0, _, _, _, _, _ => rfl
  | m + 1, o0, list1, t10, t11, t12 => by
    have hrec : zz48_R2 N m (zz48_E2 kX kO) = (zz48_l2 N (zz48_X2 kX) m) := (funext fun o0 => (funext fun list1 => (funext fun t10 => (funext fun t11 => (funext fun t12 => zz48_iter2 N kX kO m o0 list1 t10 t11 t12)))))
    refine (zz48_step2 N m kX kO o0 list1 t10 t11 t12).trans ?_
    rw [(funext fun o0 => (funext fun list1 => (funext fun x6 => (funext fun top7 => (funext fun t10 => (funext fun t11 => (funext fun t12 => (funext fun t16 => (funext fun t17 => (funext fun t18 => zz48_in6 N m kX kO (zz48_l2 N (zz48_X2 kX) m) hrec o0 list1 x6 top7 t10 t11 t12 t16 t17 t18))))))))))]
    rfl
noncomputable abbrev zz48_K2 (N : Nat) : Ex → St → Option (Int × Unit) := (blockK 0 (seqK ((A_zz48).shape 27) (run (A_zz48) N (codeAt Try.f131 [1, 1])) zz48_z))
noncomputable abbrev zz48_k2 (N : Nat) : St → Option (Int × Unit) := fun st' => run (A_zz48) N (codeAt Try.f131 [1, 1]) st' zz48_z
theorem zz48_after2 (N : Nat) : zz48_X2 (zz48_k2 N) = zz48_a2 := by kernel_rfl
theorem zz48_in2 (N : Nat) (o0 : Y5) (list1 : Y4) (t10 : Y4) (t11 : Int) (t12 : Int) : zz48_R2 N N (zz48_K2 N) o0 list1 t10 t11 t12 = zz48_F2 N o0 list1 t10 t11 t12 :=
  have h : zz48_X2 (zz48_k2 N) = (zz48_a2) := zz48_after2 N
  ((iter_ex (fun st => by kernel_rfl) (fun st => by kernel_rfl)).trans (zz48_iter2 N (zz48_k2 N) (fun j st => (zz48_K2 N) (.exit j) st) N o0 list1 t10 t11 t12)).trans (congrArg (fun k => zz48_l2 N k N o0 list1 t10 t11 t12) h)
theorem run0_zz48 (N : Nat) (x : (S_zz48).a.den) : runF (A_zz48) N Try.f131 S_zz48 x = (zz48_s (zz48_R2 N N (zz48_K2 N)) x.1 x.2.1) := by kernel_rfl
theorem run_zz48 (N : Nat) (x : (S_zz48).a.den) : runF (A_zz48) N Try.f131 S_zz48 x = zz48 N x.1 x.2.1 := by
  refine (run0_zz48 N x).trans ?_
  rw [(funext fun o0 => (funext fun list1 => (funext fun t10 => (funext fun t11 => (funext fun t12 => zz48_in2 N o0 list1 t10 t11 t12)))))]
  rfl
theorem fn_zz48 : FnOk Try.prog 131 := ⟨_, Try.func131, by kernel_rfl, by kernel_rfl⟩
theorem good_zz48 : Gx.Good Try.prog 131 S_zz48 := good_of_run Try.func131 (of_decide_eq_true (by kernel_rfl)) fun x r h => ⟨A_zz48, big, mkCfg_ok tabOk, mkCfg_sigs (show SigsOk Try.prog [] from trivial), (run_zz48 big x).trans h⟩

/-! zz49 -/
def zz49_s (z_0 : Int) (p_1 : Y5) (p_2 : Int) (p_3 : Int) : Option (Bool × Unit) :=
  (atI p_1 z_0).bind fun xq1 =>
  (atI xq1 p_2).bind fun xq2 =>
  cond xq2
  ((atI p_1 z_0).bind fun xq3 =>
  (atI xq3 p_3).bind fun xq4 =>
  some (xq4, (())))
  (some (false, (())))
def zz49 (z_0 : Int) (p_1 : Y5) (p_2 : Int) (p_3 : Int) : Option (Bool × Unit) := zz49_s z_0 p_1 p_2 p_3
def S_zz49 : Sig := { a := (.pair I (.pair (.ptr (.sl (.sl .bool))) (.pair (.ptr I) (.pair (.ptr I) .unit)))), md := [0, 0, 0, 0], mf := [], m := .unit, r := .bool, rf := .i, f := fun x => zz49 x.1 x.2.1 x.2.2.1 x.2.2.2.1 }
def A_zz49 : Cfg := mkCfg tab [] []
theorem run_zz49 (N : Nat) (x : (S_zz49).a.den) : runF (A_zz49) N Try.f133 S_zz49 x = zz49 x.1 x.2.1 x.2.2.1 x.2.2.2.1 := by kernel_rfl
theorem fn_zz49 : FnOk Try.prog 133 := ⟨_, Try.func133, by kernel_rfl, by kernel_rfl⟩
theorem good_zz49 : Gx.Good Try.prog 133 S_zz49 := good_of_run Try.func133 (of_decide_eq_true (by kernel_rfl)) fun x r h => ⟨A_zz49, big, mkCfg_ok tabOk, mkCfg_sigs (show SigsOk Try.prog [] from trivial), (run_zz49 big x).trans h⟩

/-! zz50 -/
def zz50_b3 (rec : (Y5 × (Int × (Int × Unit))) → Y4 → Int → Int → Option (Y4 × Unit)) (k : Y4 → Option (Y4 × Unit)) (so1 : (Y5 × (Int × (Int × Unit)))) (list5 : Y4) (t9 : Int) (t10 : Int) : Option (Y4 × Unit) :=
  cond (decide (t10 < t9))
  ((zz49 t10 so1.1 so1.2.1 so1.2.2.1).bind fun rq1 =>
  cond rq1.1
  ((appI list5 [t10]).bind fun xq2 =>
  rec so1 xq2 t9 (IntKind.i64.wrap (t10 + (1 : Int))))
  (rec so1 list5 t9 (IntKind.i64.wrap (t10 + (1 : Int)))))
  (k list5)
def zz50_a3 (list5 : Y4) : Option (Y4 × Unit) :=
  some (list5, (()))
def zz50_s (L3 : (Y5 × (Int × (Int × Unit))) → Y4 → Int → Int → Option (Y4 × Unit)) (o_0 : Y5) (so_1 : (Y5 × (Int × (Int × Unit)))) : Option (Y4 × Unit) :=
  L3 so_1 [] (o_0.length : Int) (0 : Int)
def zz50_l3 (N : Nat) (k : Y4 → Option (Y4 × Unit)) : Nat → (Y5 × (Int × (Int × Unit))) → Y4 → Int → Int → Option (Y4 × Unit)
  | 0, _, _, _, _ => none
  | m + 1, so1, list5, t9, t10 => zz50_b3 (zz50_l3 N k m) k so1 list5 t9 t10
def zz50_F3 (N : Nat) (so1 : (Y5 × (Int × (Int × Unit)))) (list5 : Y4) (t9 : Int) (t10 : Int) : Option (Y4 × Unit) := zz50_l3 N (zz50_a3) N so1 list5 t9 t10
def zz50 (N : Nat) (o_0 : Y5) (so_1 : (Y5 × (Int × (Int × Unit)))) : Option (Y4 × Unit) := zz50_s (zz50_F3 N) o_0 so_1
def S_zz50 : Sig := { a := (.pair (.sl (.sl .bool)) (.pair (.clo 133 0 (.pair (.ptr (.sl (.sl .bool))) (.pair (.ptr I) (.pair (.ptr I) .unit)))) .unit)), md := [0, 0], mf := [], m := .unit, r := (.sl I), rf := (.o .i), f := fun x => zz50 big x.1 x.2.1 }
def A_zz50 : Cfg := mkCfg tab [(133, S_zz49)] [(6, [.drop, .as (.clo 133 0 (.pair (.ptr (.sl (.sl .bool))) (.pair (.ptr I) (.pair (.ptr I) .unit)))) .i, .drop, .drop, .drop, .as (.sl I) (.o .i), .drop, .drop, .drop, .as I .i, .as I .i]), (17, [.drop, .drop, .drop, .drop, .drop, .as (.sl I) (.o .i)])]
noncomputable def zz50_R3 (N n : Nat) (K : Ex → St → Option (Y4 × Unit)) (so1 : (Y5 × (Int × (Int × Unit)))) (list5 : Y4) (t9 : Int) (t10 : Int) : Option (Y4 × Unit) := iter ((A_zz50).shape 6) (run (A_zz50) N (codeAt Try.f132 [1, 1, 0, 1, 0, 0])) n ([.u, .val (.clo 133 0 (.pair (.ptr (.sl (.sl .bool))) (.pair (.ptr I) (.pair (.ptr I) .unit)))) .i so1, .u, .u, .u, .val (.sl I) (.o .i) list5, .u, .u, .u, .val I .i t9, .val I .i t10] ++ List.replicate 11 .u) K
noncomputable abbrev zz50_z : Ex → St → Option (Y4 × Unit) := finish (A_zz50) S_zz50 Try.f132.results.toList
noncomputable abbrev zz50_X3 (kX : St → Option (Y4 × Unit)) : Y4 → Option (Y4 × Unit) := fun (list5 : Y4) => kX ([.u, .u, .u, .u, .u, .val (.sl I) (.o .i) list5] ++ List.replicate 16 .u)
noncomputable abbrev zz50_E3 (kX : St → Option (Y4 × Unit)) (kO : Nat → St → Option (Y4 × Unit)) : Ex → St → Option (Y4 × Unit) := exK zz50_z 0 ((A_zz50).shape 17) kX kO
theorem zz50_step3 (N : Nat) (m : Nat) (kX : St → Option (Y4 × Unit)) (kO : Nat → St → Option (Y4 × Unit)) (so1 : (Y5 × (Int × (Int × Unit)))) (list5 : Y4) (t9 : Int) (t10 : Int) : zz50_R3 N (m + 1) (zz50_E3 kX kO) so1 list5 t9 t10 = zz50_b3 (zz50_R3 N m (zz50_E3 kX kO)) (zz50_X3 kX) so1 list5 t9 t10 := by kernel_rfl
theorem zz50_iter3 (N : Nat) (kX : St → Option (Y4 × Unit)) (kO : Nat → St → Option (Y4 × Unit)) : ∀ (n : Nat) (so1 : (Y5 × (Int × (Int × Unit)))) (list5 : Y4) (t9 : Int) (t10 : Int), zz50_R3 N n (zz50_E3 kX kO) so1 list5 t9 t10 = zz50_l3 N (zz50_X3 kX) n so1 list5 t9 t10
  | 0, _, _, _, _ => rfl
  | m + 1, so1, list5, t9, t10 => by
    have hrec : zz50_R3 N m (zz50_E3 kX kO) = (zz50_l3 N (zz50_X3 kX) m) := (funext fun so1 => (funext fun list5 => (funext fun t9 => (funext fun t10 => zz50_iter3 N kX kO m so1 list5 t9 t10))))
    refine (zz50_step3 N m kX kO so1 list5 t9 t10).trans ?_
    rw [hrec]
    rfl
noncomputable abbrev zz50_K3 (N : Nat) : Ex → St → Option (Y4 × Unit) := (blockK 0 (seqK ((A_zz50).shape 17) (run (A_zz50) N (codeAt Try.f132 [1, 1, 1])) zz50_z))
noncomputable abbrev zz50_k3 (N : Nat) : St → Option (Y4 × Unit) := fun st' => run (A_zz50) N (codeAt Try.f132 [1, 1, 1]) st' zz50_z
theorem zz50_after3 (N : Nat) (list5 : Y4) : zz50_X3 (zz50_k3 N) list5 = zz50_a3 list5 := by kernel_rfl
theorem zz50_in3 (N : Nat) (so1 : (Y5 × (Int × (Int × Unit)))) (list5 : Y4) (t9 : Int) (t10 : Int) : zz50_R3 N N (zz50_K3 N) so1 list5 t9 t10 = zz50_F3 N so1 list5 t9 t10 :=
  have h : zz50_X3 (zz50_k3 N) = (zz50_a3) := (funext fun list5 => zz50_after3 N list5)
  ((iter_ex (fun st => by kernel_rfl) (fun st => by kernel_rfl)).trans (zz50_iter3 N (zz50_k3 N) (fun j st => (zz50_K3 N) (.exit j) st) N so1 list5 t9 t10)).trans (congrArg (fun k => zz50_l3 N k N so1 list5 t9 t10) h)
theorem run0_zz50 (N : Nat) (x : (S_zz50).a.den) : runF (A_zz50) N Try.f132 S_zz50 x = (zz50_s (zz50_R3 N N (zz50_K3 N)) x.1 x.2.1) := by kernel_rfl
theorem run_zz50 (N : Nat) (x : (S_zz50).a.den) : runF (A_zz50) N Try.f132 S_zz50 x = zz50 N x.1 x.2.1 := by
  refine (run0_zz50 N x).trans ?_
  rw [(funext fun so1 => (funext fun list5 => (funext fun t9 => (funext fun t10 => zz50_in3 N so1 list5 t9 t10))))]
  rfl
theorem fn_zz50 : FnOk Try.prog 132 := ⟨_, Try.func132, by kernel_rfl, by kernel_rfl⟩
theorem good_zz50 : Gx.Good Try.prog 132 S_zz50 := good_of_run Try.func132 (of_decide_eq_true (by kernel_rfl)) fun x r h => ⟨A_zz50, big, mkCfg_ok tabOk, mkCfg_sigs (show SigsOk Try.prog [(133, S_zz49)] from ⟨⟨fn_zz49, good_zz49⟩, trivial⟩), (run_zz50 big x).trans h⟩

/-! zz51 -/
def zz51_b7 (rec : Y5 → Y3 → Int → Y4 → Int → Int → Int → Int → Option ((Y3 × (Bool × Unit)) × Unit)) (k : Y5 → Y3 → Y4 → Int → Int → Option ((Y3 × (Bool × Unit)) × Unit)) (o1 : Y5) (table4 : Y3) (x5 : Int) (row6 : Y4) (t11 : Int) (t12 : Int) (t17 : Int) (t18 : Int) : Option ((Y3 × (Bool × Unit)) × Unit) :=
  cond (decide (t18 < t17))
  ((zz50 big o1 (o1, x5, t18, ())).bind fun rq1 =>
  (zz48 big o1 rq1.1).bind fun rq2 =>
  cond (decide (rq2.1 < (0 : Int)))
  (some (([], false, ()), (())))
  ((appI row6 [rq2.1]).bind fun xq3 =>
  rec o1 table4 x5 xq3 t11 t12 t17 (IntKind.i64.wrap (t18 + (1 : Int)))))
  (k o1 table4 row6 t11 t12)
def zz51_a7 (rec : Y5 → Y3 → Int → Int → Option ((Y3 × (Bool × Unit)) × Unit)) (o1 : Y5) (table4 : Y3) (row6 : Y4) (t11 : Int) (t12 : Int) : Option ((Y3 × (Bool × Unit)) × Unit) :=
  (appI table4 [row6]).bind fun xq4 =>
  rec o1 xq4 t11 (IntKind.i64.wrap (t12 + (1 : Int)))
def zz51_b3 (L7 : Y5 → Y3 → Int → Y4 → Int → Int → Int → Int → Option ((Y3 × (Bool × Unit)) × Unit)) (k : Y3 → Option ((Y3 × (Bool × Unit)) × Unit)) (o1 : Y5) (table4 : Y3) (t11 : Int) (t12 : Int) : Option ((Y3 × (Bool × Unit)) × Unit) :=
  cond (decide (t12 < t11))
  (L7 o1 table4 t12 [] t11 t12 (o1.length : Int) (0 : Int))
  (k table4)
def zz51_a3 (table4 : Y3) : Option ((Y3 × (Bool × Unit)) × Unit) :=
  some ((table4, true, ()), (()))
def zz51_s (L3 : Y5 → Y3 → Int → Int → Option ((Y3 × (Bool × Unit)) × Unit)) (o_0 : Y5) : Option ((Y3 × (Bool × Unit)) × Unit) :=
  L3 o_0 [] (o_0.length : Int) (0 : Int)
def zz51_l7 (N : Nat) (k : Y5 → Y3 → Y4 → Int → Int → Option ((Y3 × (Bool × Unit)) × Unit)) : Nat → Y5 → Y3 → Int → Y4 → Int → Int → Int → Int → Option ((Y3 × (Bool × Unit)) × Unit)
  | 0, _, _, _, _, _, _, _, _ => none
  | m + 1, o1, table4, x5, row6, t11, t12, t17, t18 => zz51_b7 (zz51_l7 N k m) k o1 table4 x5 row6 t11 t12 t17 t18
def zz51_F7 (N : Nat) (rec : Y5 → Y3 → Int → Int → Option ((Y3 × (Bool × Unit)) × Unit)) (k : Y3 → Option ((Y3 × (Bool × Unit)) × Unit)) (o1 : Y5) (table4 : Y3) (x5 : Int) (row6 : Y4) (t11 : Int) (t12 : Int) (t17 : Int) (t18 : Int) : Option ((Y3 × (Bool × Unit)) × Unit) := zz51_l7 N (zz51_a7 rec) N o1 table4 x5 row6 t11 t12 t17 t18
def zz51_l3 (N : Nat) (k : Y3 → Option ((Y3 × (Bool × Unit)) × Unit)) : Nat → Y5 → Y3 → Int → Int → Option ((Y3 × (Bool × Unit)) × Unit)
  | 0, _, _, _, _ => none
  | m + 1, o1, table4, t11, t12 => zz51_b3 (zz51_F7 N (zz51_l3 N k m) k) k o1 table4 t11 t12
def zz51_F3 (N : Nat) (o1 : Y5) (table4 : Y3) (t11 : Int) (t12 : Int) : Option ((Y3 × (Bool × Unit)) × Unit) := zz51_l3 N (zz51_a3) N o1 table4 t11 t12
def zz51 (N : Nat) (o_0 : Y5) : Option ((Y3 × (Bool × Unit)) × Unit) := zz51_s (zz51_F3 N) o_0
def S_zz51 : Sig := { a := (.pair (.sl (.sl .bool)) .unit), md := [0], mf := [], m := .unit, r := (.tup (.pair (.sl (.sl I)) (.pair .bool .unit))), rf := (.p (.o (.o .i)) .i), f := fun x => zz51 big x.1 }
def A_zz51 : Cfg := mkCfg tab [(132, S_zz50), (131, S_zz48)] [(6, [.drop, .as (.ptr (.sl (.sl .bool))) .i, .drop, .drop, .as (.sl (.sl I)) (.o (.o .i)), .drop, .drop, .drop, .drop, .drop, .drop, .as I .i, .as I .i]), (14, [.drop, .as (.ptr (.sl (.sl .bool))) .i, .drop, .drop, .as (.sl (.sl I)) (.o (.o .i)), .as (.ptr I) .i, .as (.sl I) (.o .i), .drop, .drop, .drop, .drop, .as I .i, .as I .i, .drop, .drop, .drop, .drop, .as I .i, .as I .i]), (33, [.drop, .drop, .drop, .drop, .as (.sl (.sl I)) (.o (.o .i))]), (19, [.drop, .as (.ptr (.sl (.sl .bool))) .i, .drop, .drop, .as (.sl (.sl I)) (.o (.o .i)), .as (.ptr I) .i, .as (.sl I) (.o .i), .as (.ptr I) .i, .drop, .drop, .drop, .as I .i, .as I .i, .drop, .drop, .drop, .drop, .as I .i, .as I .i]), (29, [.drop, .as (.ptr (.sl (.sl .bool))) .i, .drop, .drop, .as (.sl (.sl I)) (.o (.o .i)), .drop, .as (.sl I) (.o .i), .drop, .drop, .drop, .drop, .as I .i, .as I .i])]
noncomputable def zz51_R3 (N n : Nat) (K : Ex → St → Option ((Y3 × (Bool × Unit)) × Unit)) (o1 : Y5) (table4 : Y3) (t11 : Int) (t12 : Int) : Option ((Y3 × (Bool × Unit)) × Unit) := iter ((A_zz51).shape 6) (run (A_zz51) N (codeAt Try.f111 [1, 1, 0, 1, 0, 0])) n ([.u, .val (.ptr (.sl (.sl .bool))) .i o1, .u, .u, .val (.sl (.sl I)) (.o (.o .i)) table4, .u, .u, .u, .u, .u, .u, .val I .i t11, .val I .i t12] ++ List.replicate 26 .u) K
noncomputable def zz51_R7 (N n : Nat) (K : Ex → St → Option ((Y3 × (Bool × Unit)) × Unit)) (o1 : Y5) (table4 : Y3) (x5 : Int) (row6 : Y4) (t11 : Int) (t12 : Int) (t17 : Int) (t18 : Int) : Option ((Y3 × (Bool × Unit)) × Unit) := iter ((A_zz51).shape 14) (run (A_zz51) N (codeAt Try.f111 [1, 1, 0, 1, 0, 0, 1, 1, 0, 0, 1, 1, 0, 1, 0, 0])) n ([.u, .val (.ptr (.sl (.sl .bool))) .i o1, .u, .u, .val (.sl (.sl I)) (.o (.o .i)) table4, .val (.ptr I) .i x5, .val (.sl I) (.o .i) row6, .u, .u, .u, .u, .val I .i t11, .val I .i t12, .u, .u, .u, .u, .val I .i t17, .val I .i t18] ++ List.replicate 20 .u) K
noncomputable abbrev zz51_z : Ex → St → Option ((Y3 × (Bool × Unit)) × Unit) := finish (A_zz51) S_zz51 Try.f111.results.toList
noncomputable abbrev zz51_X3 (kX : St → Option ((Y3 × (Bool × Unit)) × Unit)) : Y3 → Option ((Y3 × (Bool × Unit)) × Unit) := fun (table4 : Y3) => kX ([.u, .u, .u, .u, .val (.sl (.sl I)) (.o (.o .i)) table4] ++ List.replicate 34 .u)
noncomputable abbrev zz51_E3 (kX : St → Option ((Y3 × (Bool × Unit)) × Unit)) (kO : Nat → St → Option ((Y3 × (Bool × Unit)) × Unit)) : Ex → St → Option ((Y3 × (Bool × Unit)) × Unit) := exK zz51_z 0 ((A_zz51).shape 33) kX kO
noncomputable abbrev zz51_X7 (kX : St → Option ((Y3 × (Bool × Unit)) × Unit)) : Y5 → Y3 → Y4 → Int → Int → Option ((Y3 × (Bool × Unit)) × Unit) := fun (o1 : Y5) (table4 : Y3) (row6 : Y4) (t11 : Int) (t12 : Int) => kX ([.u, .val (.ptr (.sl (.sl .bool))) .i o1, .u, .u, .val (.sl (.sl I)) (.o (.o .i)) table4, .u, .val (.sl I) (.o .i) row6, .u, .u, .u, .u, .val I .i t11, .val I .i t12] ++ List.replicate 26 .u)
noncomputable abbrev zz51_E7 (kX : St → Option ((Y3 × (Bool × Unit)) × Unit)) (kO : Nat → St → Option ((Y3 × (Bool × Unit)) × Unit)) : Ex → St → Option ((Y3 × (Bool × Unit)) × Unit) := exK zz51_z 2 ((A_zz51).shape 29) kX kO
theorem zz51_step7 (N : Nat) (m : Nat) (kX : St → Option ((Y3 × (Bool × Unit)) × Unit)) (kO : Nat → St → Option ((Y3 × (Bool × Unit)) × Unit)) (o1 : Y5) (table4 : Y3) (x5 : Int) (row6 : Y4) (t11 : Int) (t12 : Int) (t17 : Int) (t18 : Int) : zz51_R7 N (m + 1) (zz51_E7 kX kO) o1 table4 x5 row6 t11 t12 t17 t18 = zz51_b7 (zz51_R7 N m (zz51_E7 kX kO)) (zz51_X7 kX) o1 table4 x5 row6 t11 t12 t17 t18 := by kernel_rfl
theorem zz51_iter7 (N : Nat) (kX : St → Option ((Y3 × (Bool × Unit)) × Unit)) (kO : Nat → St → Option ((Y3 × (Bool × Unit)) × Unit)) : ∀ (n : Nat) (o1 : Y5) (table4 : Y3) (x5 : Int) (row6 : Y4) (t11 : Int) (t12 : Int) (t17 : Int) (t18 : Int), zz51_R7 N n (zz51_E7 kX kO) o1 table4 x5 row6 t11 t12 t17 t18 = zz51_l7 N (zz51_X7 kX) n o1 table4 x5 row6 t11 t12 t17 t18
  | 0, _, _, _, _, _, _, _, _ => rfl
  | m + 1, o1, table4, x5, row6, t11, t12, t17, t18 => by
    have hrec : zz51_R7 N m (zz51_E7 kX kO) = (zz51_l7 N (zz51_X7 kX) m) := (funext fun o1 => (funext fun table4 => (funext fun x5 => (funext fun row6 => (funext fun t11 => (funext fun t12 => (funext fun t17 => (funext fun t18 => zz51_iter7 N kX kO m o1 table4 x5 row6 t11 t12 t17 t18))))))))
    refine (zz51_step7 N m kX kO o1 table4 x5 row6 t11 t12 t17 t18).trans ?_
    rw [hrec]
    rfl
noncomputable abbrev zz51_K7 (N : Nat) (m : Nat) (kX : St → Option ((Y3 × (Bool × Unit)) × Unit)) (kO : Nat → St → Option ((Y3 × (Bool × Unit)) × Unit)) : Ex → St → Option ((Y3 × (Bool × Unit)) × Unit) := (blockK 2 (seqK ((A_zz51).shape 29) (run (A_zz51) N (codeAt Try.f111 [1, 1, 0, 1, 0, 0, 1, 1, 0, 0, 1, 1, 1])) (blockK 1 (seqK ((A_zz51).shape 31) (run (A_zz51) N (codeAt Try.f111 [1, 1, 0, 1, 0, 0, 1, 1, 1])) (iterK ((A_zz51).shape 6) (run (A_zz51) N (codeAt Try.f111 [1, 1, 0, 1, 0, 0])) m (zz51_E3 kX kO))))))
noncomputable abbrev zz51_k7 (N : Nat) (m : Nat) (kX : St → Option ((Y3 × (Bool × Unit)) × Unit)) (kO : Nat → St → Option ((Y3 × (Bool × Unit)) × Unit)) : St → Option ((Y3 × (Bool × Unit)) × Unit) := fun st' => run (A_zz51) N (codeAt Try.f111 [1, 1, 0, 1, 0, 0, 1, 1, 0, 0, 1, 1, 1]) st' (blockK 1 (seqK ((A_zz51).shape 31) (run (A_zz51) N (codeAt Try.f111 [1, 1, 0, 1, 0, 0, 1, 1, 1])) (iterK ((A_zz51).shape 6) (run (A_zz51) N (codeAt Try.f111 [1, 1, 0, 1, 0, 0])) m (zz51_E3 kX kO))))
theorem zz51_after7 (N : Nat) (m : Nat) (kX : St → Option ((Y3 × (Bool × Unit)) × Unit)) (kO : Nat → St → Option ((Y3 × (Bool × Unit)) × Unit)) (o1 : Y5) (table4 : Y3) (row6 : Y4) (t11 : Int) (t12 : Int) : zz51_X7 (zz51_k7 N m kX kO) o1 table4 row6 t11 t12 = zz51_a7 (zz51_R3 N m (zz51_E3 kX kO)) o1 table4 row6 t11 t12 := by kernel_rfl
theorem zz51_in7 (N : Nat) (m : Nat) (kX : St → Option ((Y3 × (Bool × Unit)) × Unit)) (kO : Nat → St → Option ((Y3 × (Bool × Unit)) × Unit)) (recF : Y5 → Y3 → Int → Int → Option ((Y3 × (Bool × Unit)) × Unit)) (hrec : zz51_R3 N m (zz51_E3 kX kO) = recF) (o1 : Y5) (table4 : Y3) (x5 : Int) (row6 : Y4) (t11 : Int) (t12 : Int) (t17 : Int) (t18 : Int) : zz51_R7 N N (zz51_K7 N m kX kO) o1 table4 x5 row6 t11 t12 t17 t18 = zz51_F7 N recF (zz51_X3 kX) o1 table4 x5 row6 t11 t12 t17 t18 :=
  have h : zz51_X7 (zz51_k7 N m kX kO) = (zz51_a7 recF) := (funext fun o1 => (funext fun table4 => (funext fun row6 => (funext fun t11 => (funext fun t12 => (zz51_after7 N m kX kO o1 table4 row6 t11 t12).trans (by rw [hrec]))))))
  ((iter_ex (fun st => by kernel_rfl) (fun st => by kernel_rfl)).trans (zz51_iter7 N (zz51_k7 N m kX kO) (fun j st => (zz51_K7 N m kX kO) (.exit j) st) N o1 table4 x5 row6 t11 t12 t17 t18)).trans (congrArg (fun k => zz51_l7 N k N o1 table4 x5 row6 t11 t12 t17 t18) h)
theorem zz51_step3 (N : Nat) (m : Nat) (kX : St → Option ((Y3 × (Bool × Unit)) × Unit)) (kO : Nat → St → Option ((Y3 × (Bool × Unit)) × Unit)) (o1 : Y5) (table4 : Y3) (t11 : Int) (t12 : Int) : zz51_R3 N (m + 1) (zz51_E3 kX kO) o1 table4 t11 t12 = zz51_b3 (zz51_R7 N N (zz51_K7 N m kX kO)) (zz51_X3 kX) o1 table4 t11 t12 := by kernel_rfl
theorem zz51_iter3 (N : Nat) (kX : St → Option ((Y3 × (Bool × Unit)) × Unit)) (kO : Nat → St → Option ((Y3 × (Bool × Unit)) × Unit)) : ∀ (n : Nat) (o1 : Y5) (table4 : Y3) (t11 : Int) (t12 : Int), zz51_R3 N n (zz51_E3 kX kO) o1 table4 t11 t12 = zz51_l3 N (zz51_X3 kX) n o1 table4 t11 t12
  | 0, _, _, _, _ => rfl
  | m + 1, o1, table4, t11, t12 => by
    have hrec : zz51_R3 N m (zz51_E3 kX kO) = (zz51_l3 N (zz51_X3 kX) m) := (funext fun o1 => (funext fun table4 => (funext fun t11 => (funext fun t12 => zz51_iter3 N kX kO m o1 table4 t11 t12))))
    refine (zz51_step3 N m kX kO o1 table4 t11 t12).trans ?_
    rw [(funext fun o1 => (funext fun table4 => (funext fun x5 => (funext fun row6 => (funext fun t11 => (funext fun t12 => (funext fun t17 => (funext fun t18 => zz51_in7 N m kX kO (zz51_l3 N (zz51_X3 kX) m) hrec o1 table4 x5 row6 t11 t12 t17 t18))))))))]
    rfl
noncomputable abbrev zz51_K3 (N : Nat) : Ex → St → Option ((Y3 × (Bool × Unit)) × Unit) := (blockK 0 (seqK ((A_zz51).shape 33) (run (A_zz51) N (codeAt Try.f111 [1, 1, 1])) zz51_z))
noncomputable abbrev zz51_k3 (N : Nat) : St → Option ((Y3 × (Bool × Unit)) × Unit) := fun st' => run (A_zz51) N (codeAt Try.f111 [1, 1, 1]) st' zz51_z
theorem zz51_after3 (N : Nat) (table4 : Y3) : zz51_X3 (zz51_k3 N) table4 = zz51_a3 table4 := by kernel_rfl
theorem zz51_in3 (N : Nat) (o1 : Y5) (table4 : Y3) (t11 : Int) (t12 : Int) : zz51_R3 N N (zz51_K3 N) o1 table4 t11 t12 = zz51_F3 N o1 table4 t11 t12 :=
  have h : zz51_X3 (zz51_k3 N) = (zz51_a3) := (funext fun table4 => zz51_after3 N table4)
  ((iter_ex (fun st => by kernel_rfl) (fun st => by kernel_rfl)).trans (zz51_iter3 N (zz51_k3 N) (fun j st => (zz51_K3 N) (.exit j) st) N o1 table4 t11 t12)).trans (congrArg (fun k => zz51_l3 N k N o1 table4 t11 t12) h)
theorem run0_zz51 (N : Nat) (x : (S_zz51).a.den) : runF (A_zz51) N Try.f111 S_zz51 x = (zz51_s (zz51_R3 N N (zz51_K3 N)) x.1) := by kernel_rfl
theorem run_zz51 (N : Nat) (x : (S_zz51).a.den) : runF (A_zz51) N Try.f111 S_zz51 x = zz51 N x.1 := by
  refine (run0_zz51 N x).trans ?_
  rw [(funext fun o1 => (funext fun table4 => (funext fun t11 => (funext fun t12 => zz51_in3 N o1 table4 t11 t12))))]
  rfl
theorem fn_zz51 : FnOk Try.prog 111 := ⟨_, Try.func111, by kernel_rfl, by kernel_rfl⟩
theorem good_zz51 : Gx.Good Try.prog 111 S_zz51 := good_of_run Try.func111 (of_decide_eq_true (by kernel_rfl)) fun x r h => ⟨A_zz51, big, mkCfg_ok tabOk, mkCfg_sigs (show SigsOk Try.prog [(132, S_zz50), (131, S_zz48)] from ⟨⟨fn_zz50, good_zz50⟩, ⟨fn_zz48, good_zz48⟩, trivial⟩), (run_zz51 big x).trans h⟩

/-! zz52 -/
def zz52_b6 (rec : Y5 → Y5 → Int → Int → Int → Int → Int → Option (Y5 × Unit)) (k : Y5 → Y5 → Int → Int → Option (Y5 × Unit)) (o0 : Y5) (d3 : Y5) (x4 : Int) (t10 : Int) (t11 : Int) (t15 : Int) (t16 : Int) : Option (Y5 × Unit) :=
  cond (decide (t16 < t15))
  ((atI d3 x4).bind fun _ =>
  (d3[x4.toNat]?).bind fun xq2 =>
  (atI o0 t16).bind fun xq3 =>
  (atI xq3 x4).bind fun xq4 =>
  (d3[x4.toNat]?).bind fun xq5 =>
  (atI xq5 t16).bind fun _ =>
  (d3[x4.toNat]?).bind fun xq6 =>
  (xq6[t16.toNat]?).bind fun xq7 =>
  rec o0 (d3.set x4.toNat (xq6.set t16.toNat xq4)) x4 t10 t11 t15 (IntKind.i64.wrap (t16 + (1 : Int))))
  (k o0 d3 t10 t11)
def zz52_a6 (rec : Y5 → Y5 → Int → Int → Option (Y5 × Unit)) (o0 : Y5) (d3 : Y5) (t10 : Int) (t11 : Int) : Option (Y5 × Unit) :=
  rec o0 d3 t10 (IntKind.i64.wrap (t11 + (1 : Int)))
def zz52_b3 (L6 : Y5 → Y5 → Int → Int → Int → Int → Int → Option (Y5 × Unit)) (k : Y5 → Option (Y5 × Unit)) (o0 : Y5) (d3 : Y5) (t10 : Int) (t11 : Int) : Option (Y5 × Unit) :=
  cond (decide (t11 < t10))
  (L6 o0 d3 t11 t10 t11 (o0.length : Int) (0 : Int))
  (k d3)
def zz52_a3 (d3 : Y5) : Option (Y5 × Unit) :=
  some (d3, (()))
def zz52_s (L3 : Y5 → Y5 → Int → Int → Option (Y5 × Unit)) (o_0 : Y5) : Option (Y5 × Unit) :=
  (zz42 big (o_0.length : Int)).bind fun rq1 =>
  L3 o_0 rq1.1 (o_0.length : Int) (0 : Int)
def zz52_l6 (N : Nat) (k : Y5 → Y5 → Int → Int → Option (Y5 × Unit)) : Nat → Y5 → Y5 → Int → Int → Int → Int → Int → Option (Y5 × Unit)
  | 0, _, _, _, _, _, _, _ => none
  | m + 1, o0, d3, x4, t10, t11, t15, t16 => zz52_b6 (zz52_l6 N k m) k o0 d3 x4 t10 t11 t15 t16
def zz52_F6 (N : Nat) (rec : Y5 → Y5 → Int → Int → Option (Y5 × Unit)) (k : Y5 → Option (Y5 × Unit)) (o0 : Y5) (d3 : Y5) (x4 : Int) (t10 : Int) (t11 : Int) (t15 : Int) (t16 : Int) : Option (Y5 × Unit) := zz52_l6 N (zz52_a6 rec) N o0 d3 x4 t10 t11 t15 t16
def zz52_l3 (N : Nat) (k : Y5 → Option (Y5 × Unit)) : Nat → Y5 → Y5 → Int → Int → Option (Y5 × Unit)
  | 0, _, _, _, _ => none
  | m + 1, o0, d3, t10, t11 => zz52_b3 (zz52_F6 N (zz52_l3 N k m) k) k o0 d3 t10 t11
def zz52_F3 (N : Nat) (o0 : Y5) (d3 : Y5) (t10 : Int) (t11 : Int) : Option (Y5 × Unit) := zz52_l3 N (zz52_a3) N o0 d3 t10 t11
def zz52 (N : Nat) (o_0 : Y5) : Option (Y5 × Unit) := zz52_s (zz52_F3 N) o_0
def S_zz52 : Sig := { a := (.pair (.sl (.sl .bool)) .unit), md := [0], mf := [], m := .unit, r := (.sl (.sl .bool)), rf := (.o (.o .i)), f := fun x => zz52 big x.1 }
def A_zz52 : Cfg := mkCfg tab [(98, S_zz42)] [(6, [.as (.sl (.sl .bool)) .i, .drop, .drop, .as (.sl (.sl .bool)) (.o (.o .i)), .drop, .drop, .drop, .drop, .drop, .drop, .as I .i, .as I .i]), (12, [.as (.sl (.sl .bool)) .i, .drop, .drop, .as (.sl (.sl .bool)) (.o (.o .i)), .as I .i, .drop, .drop, .drop, .drop, .drop, .as I .i, .as I .i, .drop, .drop, .drop, .as I .i, .as I .i]), (23, [.drop, .drop, .drop, .as (.sl (.sl .bool)) (.o (.o .i))]), (21, [.as (.sl (.sl .bool)) .i, .drop, .drop, .as (.sl (.sl .bool)) (.o (.o .i)), .drop, .drop, .drop, .drop, .drop, .drop, .as I .i, .as I .i])]
noncomputable def zz52_R3 (N n : Nat) (K : Ex → St → Option (Y5 × Unit)) (o0 : Y5) (d3 : Y5) (t10 : Int) (t11 : Int) : Option (Y5 × Unit) := iter ((A_zz52).shape 6) (run (A_zz52) N (codeAt Try.f112 [1, 1, 0, 1, 0, 0])) n ([.val (.sl (.sl .bool)) .i o0, .u, .u, .val (.sl (.sl .bool)) (.o (.o .i)) d3, .u, .u, .u, .u, .u, .u, .val I .i t10, .val I .i t11] ++ List.replicate 23 .u) K
noncomputable def zz52_R6 (N n : Nat) (K : Ex → St → Option (Y5 × Unit)) (o0 : Y5) (d3 : Y5) (x4 : Int) (t10 : Int) (t11 : Int) (t15 : Int) (t16 : Int) : Option (Y5 × Unit) := iter ((A_zz52).shape 12) (run (A_zz52) N (codeAt Try.f112 [1, 1, 0, 1, 0, 0, 1, 1, 0, 0, 1, 1, 0, 0])) n ([.val (.sl (.sl .bool)) .i o0, .u, .u, .val (.sl (.sl .bool)) (.o (.o .i)) d3, .val I .i x4, .u, .u, .u, .u, .u, .val I .i t10, .val I .i t11, .u, .u, .u, .val I .i t15, .val I .i t16] ++ List.replicate 18 .u) K
noncomputable abbrev zz52_z : Ex → St → Option (Y5 × Unit) := finish (A_zz52) S_zz52 Try.f112.results.toList
noncomputable abbrev zz52_X3 (kX : St → Option (Y5 × Unit)) : Y5 → Option (Y5 × Unit) := fun (d3 : Y5) => kX ([.u, .u, .u, .val (.sl (.sl .bool)) (.o (.o .i)) d3] ++ List.replicate 31 .u)
noncomputable abbrev zz52_E3 (kX : St → Option (Y5 × Unit)) (kO : Nat → St → Option (Y5 × Unit)) : Ex → St → Option (Y5 × Unit) := exK zz52_z 0 ((A_zz52).shape 23) kX kO
noncomputable abbrev zz52_X6 (kX : St → Option (Y5 × Unit)) : Y5 → Y5 → Int → Int → Option (Y5 × Unit) := fun (o0 : Y5) (d3 : Y5) (t10 : Int) (t11 : Int) => kX ([.val (.sl (.sl .bool)) .i o0, .u, .u, .val (.sl (.sl .bool)) (.o (.o .i)) d3, .u, .u, .u, .u, .u, .u, .val I .i t10, .val I .i t11] ++ List.replicate 23 .u)
noncomputable abbrev zz52_E6 (kX : St → Option (Y5 × Unit)) (kO : Nat → St → Option (Y5 × Unit)) : Ex → St → Option (Y5 × Unit) := exK zz52_z 2 ((A_zz52).shape 21) kX kO
theorem zz52_step6 (N : Nat) (m : Nat) (kX : St → Option (Y5 × Unit)) (kO : Nat → St → Option (Y5 × Unit)) (o0 : Y5) (d3 : Y5) (x4 : Int) (t10 : Int) (t11 : Int) (t15 : Int) (t16 : Int) : zz52_R6 N (m + 1) (zz52_E6 kX kO) o0 d3 x4 t10 t11 t15 t16 = zz52_b6 (zz52_R6 N m (zz52_E6 kX kO)) (zz52_X6 kX) o0 d3 x4 t10 t11 t15 t16 := by kernel_rfl
theorem zz52_iter6 (N : Nat) (kX : St → Option (Y5 × Unit)) (kO : Nat → St → Option (Y5 × Unit)) : ∀ (n : Nat) (o0 : Y5) (d3 : Y5) (x4 : Int) (t10 : Int) (t11 : Int) (t15 : Int) (t16 : Int), zz52_R6 N n (zz52_E6 kX kO) o0 d3 x4 t10 t11 t15 t16 = zz52_l6 N (zz52_X6 kX) n o0 d3 x4 t10 t11 t15 t16
  | 0, _, _, _, _, _, _, _ => rfl
  | m + 1, o0, d3, x4, t10, t11, t15, t16 => by
    have hrec : zz52_R6 N m (zz52_E6 kX kO) = (zz52_l6 N (zz52_X6 kX) m) := (funext fun o0 => (funext fun d3 => (funext fun x4 => (funext fun t10 => (funext fun t11 => (funext fun t15 => (funext fun t16 => zz52_iter6 N kX kO m o0 d3 x4 t10 t11 t15 t16)))))))
    refine (zz52_step6 N m kX kO o0 d3 x4 t10 t11 t15 t16).trans ?_
    rw [hrec]
    rfl
noncomputable abbrev zz52_K6 (N : Nat) (m : Nat) (kX : St → Option (Y5 × Unit)) (kO : Nat → St → Option (Y5 × Unit)) : Ex → St → Option (Y5 × Unit) := (blockK 2 (blockK 1 (seqK ((A_zz52).shape 21) (run (A_zz52) N (codeAt Try.f112 [1, 1, 0, 1, 0, 0, 1, 1, 1])) (iterK ((A_zz52).shape 6) (run (A_zz52) N (codeAt Try.f112 [1, 1, 0, 1, 0, 0])) m (zz52_E3 kX kO)))))
noncomputable abbrev zz52_k6 (N : Nat) (m : Nat) (kX : St → Option (Y5 × Unit)) (kO : Nat → St → Option (Y5 × Unit)) : St → Option (Y5 × Unit) := fun st' => run (A_zz52) N (codeAt Try.f112 [1, 1, 0, 1, 0, 0, 1, 1, 1]) st' (iterK ((A_zz52).shape 6) (run (A_zz52) N (codeAt Try.f112 [1, 1, 0, 1, 0, 0])) m (zz52_E3 kX kO))
theorem zz52_after6 (N : Nat) (m : Nat) (kX : St → Option (Y5 × Unit)) (kO : Nat → St → Option (Y5 × Unit)) (o0 : Y5) (d3 : Y5) (t10 : Int) (t11 : Int) : zz52_X6 (zz52_k6 N m kX kO) o0 d3 t10 t11 = zz52_a6 (zz52_R3 N m (zz52_E3 kX kO)) o0 d3 t10 t11 := by kernel_rfl
theorem zz52_in6 (N : Nat) (m : Nat) (kX : St → Option (Y5 × Unit)) (kO : Nat → St → Option (Y5 × Unit)) (recF : Y5 → Y5 → Int → Int → Option (Y5 × Unit)) (hrec : zz52_R3 N m (zz52_E3 kX kO) = recF) (o0 : Y5) (d3 : Y5) (x4 : Int) (t10 : Int) (t11 : Int) (t15 : Int) (t16 : Int) : zz52_R6 N N (zz52_K6 N m kX kO) o0 d3 x4 t10 t11 t15 t16 = zz52_F6 N recF (zz52_X3 kX) o0 d3 x4 t10 t11 t15 t16 :=
  have h : zz52_X6 (zz52_k6 N m kX kO) = (zz52_a6 recF) := (funext fun o0 => (funext fun d3 => (funext fun t10 => (funext fun t11 => (zz52_after6 N m kX kO o0 d3 t10 t11).trans (by rw [hrec])))))
  ((iter_ex (fun st => by kernel_rfl) (fun st => by kernel_rfl)).trans (zz52_iter6 N (zz52_k6 N m kX kO) (fun j st => (zz52_K6 N m kX kO) (.exit j) st) N o0 d3 x4 t10 t11 t15 t16)).trans (congrArg (fun k => zz52_l6 N k N o0 d3 x4 t10 t11 t15 t16) h)
theorem zz52_step3 (N : Nat) (m : Nat) (kX : St → Option (Y5 × Unit)) (kO : Nat → St → Option (Y5 × Unit)) (o0 : Y5) (d3 : Y5) (t10 : Int) (t11 : Int) : zz52_R3 N (m + 1) (zz52_E3 kX kO) o0 d3 t10 t11 = zz52_b3 (zz52_R6 N N (zz52_K6 N m kX kO)) (zz52_X3 kX) o0 d3 t10 t11 := by kernel_rfl
theorem zz52_iter3 (N : Nat) (kX : St → Option (Y5 × Unit)) (kO : Nat → St → Option (Y5 × Unit)) : ∀ (n : Nat) (o0 : Y5) (d3 : Y5) (t10 : Int) (t11 : Int), zz52_R3 N n (zz52_E3 kX kO) o0 d3 t10 t11 = zz52_l3 N (zz52_X3 kX) n o0 d3 t10 t11
  | 0, _, _, _, _ => rfl
  | m + 1, o0, d3, t10, t11 => by
    have hrec : zz52_R3 N m (zz52_E3 kX kO) = (zz52_l3 N (zz52_X3 kX) m) := (funext fun o0 => (funext fun d3 => (funext fun t10 => (funext fun t11 => zz52_iter3 N kX kO m o0 d3 t10 t11))))
    refine (zz52_step3 N m kX kO o0 d3 t10 t11).trans ?_
    rw [(funext fun o0 => (funext fun d3 => (funext fun x4 => (funext fun t10 => (funext fun t11 => (funext fun t15 => (funext fun t16 => zz52_in6 N m kX kO (zz52_l3 N (zz52_X3 kX) m) hrec o0 d3 x4 t10 t11 t15 t16)))))))]
    rfl
noncomputable abbrev zz52_K3 (N : Nat) : Ex → St → Option (Y5 × Unit) := (blockK 0 (seqK ((A_zz52).shape 23) (run (A_zz52) N (codeAt Try.f112 [1, 1, 1])) zz52_z))
noncomputable abbrev zz52_k3 (N : Nat) : St → Option (Y5 × Unit) := fun st' => run (A_zz52) N (codeAt Try.f112 [1, 1, 1]) st' zz52_z
theorem zz52_after3 (N : Nat) (d3 : Y5) : zz52_X3 (zz52_k3 N) d3 = zz52_a3 d3 := by kernel_rfl
theorem zz52_in3 (N : Nat) (o0 : Y5) (d3 : Y5) (t10 : Int) (t11 : Int) : zz52_R3 N N (zz52_K3 N) o0 d3 t10 t11 = zz52_F3 N o0 d3 t10 t11 :=
  have h : zz52_X3 (zz52_k3 N) = (zz52_a3) := (funext fun d3 => zz52_after3 N d3)
  ((iter_ex (fun st => by kernel_rfl) (fun st => by kernel_rfl)).trans (zz52_iter3 N (zz52_k3 N) (fun j st => (zz52_K3 N) (.exit j) st) N o0 d3 t10 t11)).trans (congrArg (fun k => zz52_l3 N k N o0 d3 t10 t11) h)
theorem run0_zz52 (N : Nat) (x : (S_zz52).a.den) : runF (A_zz52) N Try.f112 S_zz52 x = (zz52_s (zz52_R3 N N (zz52_K3 N)) x.1) := by kernel_rfl
theorem run_zz52 (N : Nat) (x : (S_zz52).a.den) : runF (A_zz52) N Try.f112 S_zz52 x = zz52 N x.1 := by
  refine (run0_zz52 N x).trans ?_
  rw [(funext fun o0 => (funext fun d3 => (funext fun t10 => (funext fun t11 => zz52_in3 N o0 d3 t10 t11))))]
  rfl
theorem fn_zz52 : FnOk Try.prog 112 := ⟨_, Try.func112, by kernel_rfl, by kernel_rfl⟩
theorem good_zz52 : Gx.Good Try.prog 112 S_zz52 := good_of_run Try.func112 (of_decide_eq_true (by kernel_rfl)) fun x r h => ⟨A_zz52, big, mkCfg_ok tabOk, mkCfg_sigs (show SigsOk Try.prog [(98, S_zz42)] from ⟨⟨fn_zz42, good_zz42⟩, trivial⟩), (run_zz52 big x).trans h⟩

/-! zz53 -/
def zz53_s (p_0 : Y2) : Option ((Y1 × (Bool × Unit)) × Unit) :=
  (zz47 big p_0).bind fun rq1 =>
  cond (!((((), rq1.1.2).2).1))
  (some ((none, false, ()), (())))
  (cond (decide ((rq1.1.1.length : Int) = (0 : Int)))
  (some ((none, false, ()), (())))
  ((zz51 big rq1.1.1).bind fun rq2 =>
  (zz52 big rq1.1.1).bind fun rq3 =>
  (zz51 big rq3.1).bind fun rq4 =>
  cond ((((), rq2.1.2).2).1)
  (some ((some (rq1.1.1, (rq2.1.1, (rq4.1.1, ()))), (((), rq4.1.2).2).1, ()), (())))
  (some ((some (rq1.1.1, (rq2.1.1, (rq4.1.1, ()))), false, ()), (())))))
def zz53 (p_0 : Y2) : Option ((Y1 × (Bool × Unit)) × Unit) := zz53_s p_0
def S_zz53 : Sig := { a := (.pair (.pair (.sl (.sl I)) .unit) .unit), md := [0], mf := [], m := .unit, r := (.tup (.pair (.opt (.pair (.sl (.sl .bool)) (.pair (.sl (.sl I)) (.pair (.sl (.sl I)) .unit)))) (.pair .bool .unit))), rf := (.p (.o (.p (.o (.o .i)) (.p (.o (.o .i)) (.p (.o (.o .i)) .i)))) .i), f := fun x => zz53 x.1 }
def A_zz53 : Cfg := mkCfg tab [(110, S_zz47), (111, S_zz51), (112, S_zz52)] []
theorem run_zz53 (N : Nat) (x : (S_zz53).a.den) : runF (A_zz53) N Try.f86 S_zz53 x = zz53 x.1 := by kernel_rfl
theorem fn_zz53 : FnOk Try.prog 86 := ⟨_, Try.func86, by kernel_rfl, by kernel_rfl⟩
theorem good_zz53 : Gx.Good Try.prog 86 S_zz53 := good_of_run Try.func86 (of_decide_eq_true (by kernel_rfl)) fun x r h => ⟨A_zz53, big, mkCfg_ok tabOk, mkCfg_sigs (show SigsOk Try.prog [(110, S_zz47), (111, S_zz51), (112, S_zz52)] from ⟨⟨fn_zz47, good_zz47⟩, ⟨fn_zz51, good_zz51⟩, ⟨fn_zz52, good_zz52⟩, trivial⟩), (run_zz53 big x).trans h⟩

/-! zz54 -/
def zz54_b8 (rec : Y1 → Int → Int → Int → Int → Int → Int → Int → Int → Option ((Option Y4) × Unit)) (k : Y1 → Int → Int → Int → Int → Int → Option ((Option Y4) × Unit)) (l0 : Y1) (x3 : Int) (y4 : Int) (t10 : Int) (t11 : Int) (t18 : Int) (t19 : Int) (t26 : Int) (t27 : Int) : Option ((Option Y4) × Unit) :=
  cond (decide (t27 < t26))
  ((l0).bind fun xq4 =>
  (atI xq4.2.1 x3).bind fun xq5 =>
  (l0).bind fun xq6 =>
  (atI xq6.2.2.1 y4).bind fun xq7 =>
  (atI xq7 t27).bind fun xq8 =>
  (atI xq5 xq8).bind fun xq9 =>
  (l0).bind fun xq10 =>
  (l0).bind fun xq11 =>
  (atI xq11.2.1 x3).bind fun xq12 =>
  (atI xq12 y4).bind fun xq13 =>
  (atI xq10.2.2.1 xq13).bind fun xq14 =>
  (l0).bind fun xq15 =>
  (atI xq15.2.1 x3).bind fun xq16 =>
  (atI xq16 t27).bind fun xq17 =>
  (atI xq14 xq17).bind fun xq18 =>
  cond (decide (xq9 ≠ xq18))
  (some ((some [x3, y4, t27]), (())))
  (rec l0 x3 y4 t10 t11 t18 t19 t26 (IntKind.i64.wrap (t27 + (1 : Int)))))
  (k l0 x3 t10 t11 t18 t19)
def zz54_a8 (rec : Y1 → Int → Int → Int → Int → Int → Option ((Option Y4) × Unit)) (l0 : Y1) (x3 : Int) (t10 : Int) (t11 : Int) (t18 : Int) (t19 : Int) : Option ((Option Y4) × Unit) :=
  rec l0 x3 t10 t11 t18 (IntKind.i64.wrap (t19 + (1 : Int)))
def zz54_b5 (L8 : Y1 → Int → Int → Int → Int → Int → Int → Int → Int → Option ((Option Y4) × Unit)) (k : Y1 → Int → Int → Option ((Option Y4) × Unit)) (l0 : Y1) (x3 : Int) (t10 : Int) (t11 : Int) (t18 : Int) (t19 : Int) : Option ((Option Y4) × Unit) :=
  cond (decide (t19 < t18))
  ((l0).bind fun xq3 =>
  L8 l0 x3 t19 t10 t11 t18 t19 (xq3.1.length : Int) (0 : Int))
  (k l0 t10 t11)
def zz54_a5 (rec : Y1 → Int → Int → Option ((Option Y4) × Unit)) (l0 : Y1) (t10 : Int) (t11 : Int) : Option ((Option Y4) × Unit) :=
  rec l0 t10 (IntKind.i64.wrap (t11 + (1 : Int)))
def zz54_b2 (L5 : Y1 → Int → Int → Int → Int → Int → Option ((Option Y4) × Unit)) (k : Option ((Option Y4) × Unit)) (l0 : Y1) (t10 : Int) (t11 : Int) : Option ((Option Y4) × Unit) :=
  cond (decide (t11 < t10))
  ((l0).bind fun xq2 =>
  L5 l0 t11 t10 t11 (xq2.1.length : Int) (0 : Int))
  (k)
def zz54_a2 : Option ((Option Y4) × Unit) :=
  some (none, (()))
def zz54_s (L2 : Y1 → Int → Int → Option ((Option Y4) × Unit)) (l_0 : Y1) : Option ((Option Y4) × Unit) :=
  (l_0).bind fun xq1 =>
  L2 l_0 (xq1.1.length : Int) (0 : Int)
def zz54_l8 (N : Nat) (k : Y1 → Int → Int → Int → Int → Int → Option ((Option Y4) × Unit)) : Nat → Y1 → Int → Int → Int → Int → Int → Int → Int → Int → Option ((Option Y4) × Unit)
  | 0, _, _, _, _, _, _, _, _, _ => none
  | m + 1, l0, x3, y4, t10, t11, t18, t19, t26, t27 => zz54_b8 (zz54_l8 N k m) k l0 x3 y4 t10 t11 t18 t19 t26 t27
def zz54_F8 (N : Nat) (rec : Y1 → Int → Int → Int → Int → Int → Option ((Option Y4) × Unit)) (k : Y1 → Int → Int → Option ((Option Y4) × Unit)) (l0 : Y1) (x3 : Int) (y4 : Int) (t10 : Int) (t11 : Int) (t18 : Int) (t19 : Int) (t26 : Int) (t27 : Int) : Option ((Option Y4) × Unit) := zz54_l8 N (zz54_a8 rec) N l0 x3 y4 t10 t11 t18 t19 t26 t27
def zz54_l5 (N : Nat) (k : Y1 → Int → Int → Option ((Option Y4) × Unit)) : Nat → Y1 → Int → Int → Int → Int → Int → Option ((Option Y4) × Unit)
  | 0, _, _, _, _, _, _ => none
  | m + 1, l0, x3, t10, t11, t18, t19 => zz54_b5 (zz54_F8 N (zz54_l5 N k m) k) k l0 x3 t10 t11 t18 t19
def zz54_F5 (N : Nat) (rec : Y1 → Int → Int → Option ((Option Y4) × Unit)) (k : Option ((Option Y4) × Unit)) (l0 : Y1) (x3 : Int) (t10 : Int) (t11 : Int) (t18 : Int) (t19 : Int) : Option ((Option Y4) × Unit) := zz54_l5 N (zz54_a5 rec) N l0 x3 t10 t11 t18 t19
def zz54_l2 (N : Nat) (k : Option ((Option Y4) × Unit)) : Nat → Y1 → Int → Int → Option ((Option Y4) × Unit)
  | 0, _, _, _ => none
  | m + 1, l0, t10, t11 => zz54_b2 (zz54_F5 N (zz54_l2 N k m) k) k l0 t10 t11
def zz54_F2 (N : Nat) (l0 : Y1) (t10 : Int) (t11 : Int) : Option ((Option Y4) × Unit) := zz54_l2 N (zz54_a2) N l0 t10 t11
def zz54 (N : Nat) (l_0 : Y1) : Option ((Option Y4) × Unit) := zz54_s (zz54_F2 N) l_0
def S_zz54 : Sig := { a := (.pair (.opt (.pair (.sl (.sl .bool)) (.pair (.sl (.sl I)) (.pair (.sl (.sl I)) .unit)))) .unit), md := [0], mf := [], m := .unit, r := (.ns I), rf := (.o .i), f := fun x => zz54 big x.1 }
def A_zz54 : Cfg := mkCfg tab [] [(4, [.as (.opt (.pair (.sl (.sl .bool)) (.pair (.sl (.sl I)) (.pair (.sl (.sl I)) .unit)))) .i, .drop, .drop, .drop, .drop, .drop, .drop, .drop, .drop, .drop, .as I .i, .as I .i]), (10, [.as (.opt (.pair (.sl (.sl .bool)) (.pair (.sl (.sl I)) (.pair (.sl (.sl I)) .unit)))) .i, .drop, .drop, .as I .i, .drop, .drop, .drop, .drop, .drop, .drop, .as I .i, .as I .i, .drop, .drop, .drop, .drop, .drop, .drop, .as I .i, .as I .i]), (31, []), (16, [.as (.opt (.pair (.sl (.sl .bool)) (.pair (.sl (.sl I)) (.pair (.sl (.sl I)) .unit)))) .i, .drop, .drop, .as I .i, .as I .i, .drop, .drop, .drop, .drop, .drop, .as I .i, .as I .i, .drop, .drop, .drop, .drop, .drop, .drop, .as I .i, .as I .i, .drop, .drop, .drop, .drop, .drop, .drop, .as I .i, .as I .i]), (29, [.as (.opt (.pair (.sl (.sl .bool)) (.pair (.sl (.sl I)) (.pair (.sl (.sl I)) .unit)))) .i, .drop, .drop, .drop, .drop, .drop, .drop, .drop, .drop, .drop, .as I .i, .as I .i]), (27, [.as (.opt (.pair (.sl (.sl .bool)) (.pair (.sl (.sl I)) (.pair (.sl (.sl I)) .unit)))) .i, .drop, .drop, .as I .i, .drop, .drop, .drop, .drop, .drop, .drop, .as I .i, .as I .i, .drop, .drop, .drop, .drop, .drop, .drop, .as I .i, .as I .i])]
noncomputable def zz54_R2 (N n : Nat) (K : Ex → St → Option ((Option Y4) × Unit)) (l0 : Y1) (t10 : Int) (t11 : Int) : Option ((Option Y4) × Unit) := iter ((A_zz54).shape 4) (run (A_zz54) N (codeAt Try.f121 [1, 0, 1, 0, 0])) n ([.val (.opt (.pair (.sl (.sl .bool)) (.pair (.sl (.sl I)) (.pair (.sl (.sl I)) .unit)))) .i l0, .u, .u, .u, .u, .u, .u, .u, .u, .u, .val I .i t10, .val I .i t11] ++ List.replicate 73 .u) K
noncomputable def zz54_R5 (N n : Nat) (K : Ex → St → Option ((Option Y4) × Unit)) (l0 : Y1) (x3 : Int) (t10 : Int) (t11 : Int) (t18 : Int) (t19 : Int) : Option ((Option Y4) × Unit) := iter ((A_zz54).shape 10) (run (A_zz54) N (codeAt Try.f121 [1, 0, 1, 0, 0, 1, 1, 0, 0, 1, 1, 0, 0])) n ([.val (.opt (.pair (.sl (.sl .bool)) (.pair (.sl (.sl I)) (.pair (.sl (.sl I)) .unit)))) .i l0, .u, .u, .val I .i x3, .u, .u, .u, .u, .u, .u, .val I .i t10, .val I .i t11, .u, .u, .u, .u, .u, .u, .val I .i t18, .val I .i t19] ++ List.replicate 65 .u) K
noncomputable def zz54_R8 (N n : Nat) (K : Ex → St → Option ((Option Y4) × Unit)) (l0 : Y1) (x3 : Int) (y4 : Int) (t10 : Int) (t11 : Int) (t18 : Int) (t19 : Int) (t26 : Int) (t27 : Int) : Option ((Option Y4) × Unit) := iter ((A_zz54).shape 16) (run (A_zz54) N (codeAt Try.f121 [1, 0, 1, 0, 0, 1, 1, 0, 0, 1, 1, 0, 0, 1, 1, 0, 0, 1, 1, 0, 0])) n ([.val (.opt (.pair (.sl (.sl .bool)) (.pair (.sl (.sl I)) (.pair (.sl (.sl I)) .unit)))) .i l0, .u, .u, .val I .i x3, .val I .i y4, .u, .u, .u, .u, .u, .val I .i t10, .val I .i t11, .u, .u, .u, .u, .u, .u, .val I .i t18, .val I .i t19, .u, .u, .u, .u, .u, .u, .val I .i t26, .val I .i t27] ++ List.replicate 57 .u) K
noncomputable abbrev zz54_z : Ex → St → Option ((Option Y4) × Unit) := finish (A_zz54) S_zz54 Try.f121.results.toList
noncomputable abbrev zz54_X2 (kX : St → Option ((Option Y4) × Unit)) : Option ((Option Y4) × Unit) := kX ([] ++ List.replicate 85 .u)
noncomputable abbrev zz54_E2 (kX : St → Option ((Option Y4) × Unit)) (kO : Nat → St → Option ((Option Y4) × Unit)) : Ex → St → Option ((Option Y4) × Unit) := exK zz54_z 0 ((A_zz54).shape 31) kX kO
noncomputable abbrev zz54_X5 (kX : St → Option ((Option Y4) × Unit)) : Y1 → Int → Int → Option ((Option Y4) × Unit) := fun (l0 : Y1) (t10 : Int) (t11 : Int) => kX ([.val (.opt (.pair (.sl (.sl .bool)) (.pair (.sl (.sl I)) (.pair (.sl (.sl I)) .unit)))) .i l0, .u, .u, .u, .u, .u, .u, .u, .u, .u, .val I .i t10, .val I .i t11] ++ List.replicate 73 .u)
noncomputable abbrev zz54_E5 (kX : St → Option ((Option Y4) × Unit)) (kO : Nat → St → Option ((Option Y4) × Unit)) : Ex → St → Option ((Option Y4) × Unit) := exK zz54_z 2 ((A_zz54).shape 29) kX kO
noncomputable abbrev zz54_X8 (kX : St → Option ((Option Y4) × Unit)) : Y1 → Int → Int → Int → Int → Int → Option ((Option Y4) × Unit) := fun (l0 : Y1) (x3 : Int) (t10 : Int) (t11 : Int) (t18 : Int) (t19 : Int) => kX ([.val (.opt (.pair (.sl (.sl .bool)) (.pair (.sl (.sl I)) (.pair (.sl (.sl I)) .unit)))) .i l0, .u, .u, .val I .i x3, .u, .u, .u, .u, .u, .u, .val I .i t10, .val I .i t11, .u, .u, .u, .u, .u, .u, .val I .i t18, .val I .i t19] ++ List.replicate 65 .u)
noncomputable abbrev zz54_E8 (kX : St → Option ((Option Y4) × Unit)) (kO : Nat → St → Option ((Option Y4) × Unit)) : Ex → St → Option ((Option Y4) × Unit) := exK zz54_z 4 ((A_zz54).shape 27) kX kO
theorem zz54_step8 (N : Nat) (m : Nat) (kX : St → Option ((Option Y4) × Unit)) (kO : Nat → St → Option ((Option Y4) × Unit)) (l0 : Y1) (x3 : Int) (y4 : Int) (t10 : Int) (t11 : Int) (t18 : Int) (t19 : Int) (t26 : Int) (t27 : Int) : zz54_R8 N (m + 1) (zz54_E8 kX kO) l0 x3 y4 t10 t11 t18 t19 t26 t27 = zz54_b8 (zz54_R8 N m (zz54_E8 kX kO)) (zz54_X8 kX) l0 x3 y4 t10 t11 t18 t19 t26 t27 := by kernel_rfl
theorem zz54_iter8 (N : Nat) (kX : St → Option ((Option Y4) × Unit)) (kO : Nat → St → Option ((Option Y4) × Unit)) : ∀ (n : Nat) (l0 : Y1) (x3 : Int) (y4 : Int) (t10 : Int) (t11 : Int) (t18 : Int) (t19 : Int) (t26 : Int) (t27 : Int), zz54_R8 N n (zz54_E8 kX kO) l0 x3 y4 t10 t11 t18 t19 t26 t27 = zz54_l8 N (zz54_X8 kX) n l0 x3 y4 t10 t11 t18 t19 t26 t27
  | 0, _, _, _, _, _, _, _, _, _ => rfl
  | m + 1, l0, x3, y4, t10, t11, t18, t19, t26, t27 => by
    have hrec : zz54_R8 N m (zz54_E8 kX kO) = (zz54_l8 N (zz54_X8 kX) m) := (funext fun l0 => (funext fun x3 => (funext fun y4 => (funext fun t10 => (funext fun t11 => (funext fun t18 => (funext fun t19 => (funext fun t26 => (funext fun t27 => zz54_iter8 N kX kO m l0 x3 y4 t10 t11 t18 t19 t26 t27)))))))))
    refine (zz54_step8 N m kX kO l0 x3 y4 t10 t11 t18 t19 t26 t27).trans ?_
    rw [hrec]
    rfl
noncomputable abbrev zz54_K8 (N : Nat) (m : Nat) (kX : St → Option ((Option Y4) × Unit)) (kO : Nat → St → Option ((Option Y4) × Unit)) : Ex → St → Option ((Option Y4) × Unit) := (blockK 4 (blockK 3 (seqK ((A_zz54).shape 27) (run (A_zz54) N (codeAt Try.f121 [1, 0, 1, 0, 0, 1, 1, 0, 0, 1, 1, 0, 0, 1, 1, 1])) (iterK ((A_zz54).shape 10) (run (A_zz54) N (codeAt Try.f121 [1, 0, 1, 0, 0, 1, 1, 0, 0, 1, 1, 0, 0])) m (zz54_E5 kX kO)))))
noncomputable abbrev zz54_k8 (N : Nat) (m : Nat) (kX : St → Option ((Option Y4) × Unit)) (kO : Nat → St → Option ((Option Y4) × Unit)) : St → Option ((Option Y4) × Unit) := fun st' => run (A_zz54) N (codeAt Try.f121 [1, 0, 1, 0, 0, 1, 1, 0, 0, 1, 1, 0, 0, 1, 1, 1]) st' (iterK ((A_zz54).shape 10) (run (A_zz54) N (codeAt Try.f121 [1, 0, 1, 0, 0, 1, 1, 0, 0, 1, 1, 0, 0])) m (zz54_E5 kX kO))
theorem zz54_after8 (N : Nat) (m : Nat) (kX : St → Option ((Option Y4) × Unit)) (kO : Nat → St → Option ((Option Y4) × Unit)) (l0 : Y1) (x3 : Int) (t10 : Int) (t11 : Int) (t18 : Int) (t19 : Int) : zz54_X8 (zz54_k8 N m kX kO) l0 x3 t10 t11 t18 t19 = zz54_a8 (zz54_R5 N m (zz54_E5 kX kO)) l0 x3 t10 t11 t18 t19 := by kernel_rfl
theorem zz54_in8 (N : Nat) (m : Nat) (kX : St → Option ((Option Y4) × Unit)) (kO : Nat → St → Option ((Option Y4) × Unit)) (recF : Y1 → Int → Int → Int → Int → Int → Option ((Option Y4) × Unit)) (hrec : zz54_R5 N m (zz54_E5 kX kO) = recF) (l0 : Y1) (x3 : Int) (y4 : Int) (t10 : Int) (t11 : Int) (t18 : Int) (t19 : Int) (t26 : Int) (t27 : Int) : zz54_R8 N N (zz54_K8 N m kX kO) l0 x3 y4 t10 t11 t18 t19 t26 t27 = zz54_F8 N recF (zz54_X5 kX) l0 x3 y4 t10 t11 t18 t19 t26 t27 :=
  have h : zz54_X8 (zz54_k8 N m kX kO) = (zz54_a8 recF) := (funext fun l0 => (funext fun x3 => (funext fun t10 => (funext fun t11 => (funext fun t18 => (funext fun t19 => (zz54_after8 N m kX kO l0 x3 t10 t11 t18 t19).trans (by rw [hrec])))))))
  ((iter_ex (fun st => by kernel_rfl) (fun st => by kernel_rfl)).trans (zz54_iter8 N (zz54_k8 N m kX kO) (fun j st => (zz54_K8 N m kX kO) (.exit j) st) N l0 x3 y4 t10 t11 t18 t19 t26 t27)).trans (congrArg (fun k => zz54_l8 N k N l0 x3 y4 t10 t11 t18 t19 t26 t27) h)
theorem zz54_step5 (N : Nat) (m : Nat) (kX : St → Option ((Option Y4) × Unit)) (kO : Nat → St → Option ((Option Y4) × Unit)) (l0 : Y1) (x3 : Int) (t10 : Int) (t11 : Int) (t18 : Int) (t19 : Int) : zz54_R5 N (m + 1) (zz54_E5 kX kO) l0 x3 t10 t11 t18 t19 = zz54_b5 (zz54_R8 N N (zz54_K8 N m kX kO)) (zz54_X5 kX) l0 x3 t10 t11 t18 t19 := by kernel_rfl
theorem zz54_iter5 (N : Nat) (kX : St → Option ((Option Y4) × Unit)) (kO : Nat → St → Option ((Option Y4) × Unit)) : ∀ (n : Nat) (l0 : Y1) (x3 : Int) (t10 : Int) (t11 : Int) (t18 : Int) (t19 : Int), zz54_R5 N n (zz54_E5 kX kO) l0 x3 t10 t11 t18 t19 = zz54_l5 N (zz54_X5 kX) n l0 x3 t10 t11 t18 t19
  | 0, _, _, _, _, _, _ => rfl
  | m + 1, l0, x3, t10, t11, t18, t19 => by
    have hrec : zz54_R5 N m (zz54_E5 kX kO) = (zz54_l5 N (zz54_X5 kX) m) := (funext fun l0 => (funext fun x3 => (funext fun t10 => (funext fun t11 => (funext fun t18 => (funext fun t19 => zz54_iter5 N kX kO m l0 x3 t10 t11 t18 t19))))))
    refine (zz54_step5 N m kX kO l0 x3 t10 t11 t18 t19).trans ?_
    rw [(funext fun l0 => (funext fun x3 => (funext fun y4 => (funext fun t10 => (funext fun t11 => (funext fun t18 => (funext fun t19 => (funext fun t26 => (funext fun t27 => zz54_in8 N m kX kO (zz54_l5 N (zz54_X5 kX) m) hrec l0 x3 y4 t10 t11 t18 t19 t26 t27)))))))))]
    rfl
noncomputable abbrev zz54_K5 (N : Nat) (m : Nat) (kX : St → Option ((Option Y4) × Unit)) (kO : Nat → St → Option ((Option Y4) × Unit)) : Ex → St → Option ((Option Y4) × Unit) := (blockK 2 (blockK 1 (seqK ((A_zz54).shape 29) (run (A_zz54) N (codeAt Try.f121 [1, 0, 1, 0, 0, 1, 1, 1])) (iterK ((A_zz54).shape 4) (run (A_zz54) N (codeAt Try.f121 [1, 0, 1, 0, 0])) m (zz54_E2 kX kO)))))
noncomputable abbrev zz54_k5 (N : Nat) (m : Nat) (kX : St → Option ((Option Y4) × Unit)) (kO : Nat → St → Option ((Option Y4) × Unit)) : St → Option ((Option Y4) × Unit) := fun st' => run (A_zz54) N (codeAt Try.f121 [1, 0, 1, 0, 0, 1, 1, 1]) st' (iterK ((A_zz54).shape 4) (run (A_zz54) N (codeAt Try.f121 [1, 0, 1, 0, 0])) m (zz54_E2 kX kO))
theorem zz54_after5 (N : Nat) (m : Nat) (kX : St → Option ((Option Y4) × Unit)) (kO : Nat → St → Option ((Option Y4) × Unit)) (l0 : Y1) (t10 : Int) (t11 : Int) : zz54_X5 (zz54_k5 N m kX kO) l0 t10 t11 = zz54_a5 (zz54_R2 N m (zz54_E2 kX kO)) l0 t10 t11 := by kernel_rfl
theorem zz54_in5 (N : Nat) (m : Nat) (kX : St → Option ((Option Y4) × Unit)) (kO : Nat → St → Option ((Option Y4) × Unit)) (recF : Y1 → Int → Int → Option ((Option Y4) × Unit)) (hrec : zz54_R2 N m (zz54_E2 kX kO) = recF) (l0 : Y1) (x3 : Int) (t10 : Int) (t11 : Int) (t18 : Int) (t19 : Int) : zz54_R5 N N (zz54_K5 N m kX kO) l0 x3 t10 t11 t18 t19 = zz54_F5 N recF (zz54_X2 kX) l0 x3 t10 t11 t18 t19 :=
  have h : zz54_X5 (zz54_k5 N m kX kO) = (zz54_a5 recF) := (funext fun l0 => (funext fun t10 => (funext fun t11 => (zz54_after5 N m kX kO l0 t10 t11).trans (by rw [hrec]))))
  ((iter_ex (fun st => by kernel_rfl) (fun st => by kernel_rfl)).trans (zz54_iter5 N (zz54_k5 N m kX kO) (fun j st => (zz54_K5 N m kX kO) (.exit j) st) N l0 x3 t10 t11 t18 t19)).trans (congrArg (fun k => zz54_l5 N k N l0 x3 t10 t11 t18 t19) h)
theorem zz54_step2 (N : Nat) (m : Nat) (kX : St → Option ((Option Y4) × Unit)) (kO : Nat → St → Option ((Option Y4) × Unit)) (l0 : Y1) (t10 : Int) (t11 : Int) : zz54_R2 N (m + 1) (zz54_E2 kX kO) l0 t10 t11 = zz54_b2 (zz54_R5 N N (zz54_K5 N m kX kO)) (zz54_X2 kX) l0 t10 t11 := by kernel_rfl
theorem zz54_iter2 (N : Nat) (kX : St → Option ((Option Y4) × Unit)) (kO : Nat → St → Option ((Option Y4) × Unit)) : ∀ (n : Nat) (l0 : Y1) (t10 : Int) (t11 : Int), zz54_R2 N n (zz54_E2 kX kO) l0 t10 t11 = zz54_l2 N (zz54_X2 kX) n l0 t10 t11
  | 0, _, _, _ => rfl
  | m + 1, l0, t10, t11 => by
    have hrec : zz54_R2 N m (zz54_E2 kX kO) = (zz54_l2 N (zz54_X2 kX) m) := (funext fun l0 => (funext fun t10 => (funext fun t11 => zz54_iter2 N kX kO m l0 t10 t11)))
    refine (zz54_step2 N m kX kO l0 t10 t11).trans ?_
    rw [(funext fun l0 => (funext fun x3 => (funext fun t10 => (funext fun t11 => (funext fun t18 => (funext fun t19 => zz54_in5 N m kX kO (zz54_l2 N (zz54_X2 kX) m) hrec l0 x3 t10 t11 t18 t19))))))]
    rfl
noncomputable abbrev zz54_K2 (N : Nat) : Ex → St → Option ((Option Y4) × Unit) := (blockK 0 (seqK ((A_zz54).shape 31) (run (A_zz54) N (codeAt Try.f121 [1, 1])) zz54_z))
noncomputable abbrev zz54_k2 (N : Nat) : St → Option ((Option Y4) × Unit) := fun st' => run (A_zz54) N (codeAt Try.f121 [1, 1]) st' zz54_z
theorem zz54_after2 (N : Nat) : zz54_X2 (zz54_k2 N) = zz54_a2 := by kernel_rfl
theorem zz54_in2 (N : Nat) (l0 : Y1) (t10 : Int) (t11 : Int) : zz54_R2 N N (zz54_K2 N) l0 t10 t11 = zz54_F2 N l0 t10 t11 :=
  have h : zz54_X2 (zz54_k2 N) = (zz54_a2) := zz54_after2 N
  ((iter_ex (fun st => by kernel_rfl) (fun st => by kernel_rfl)).trans (zz54_iter2 N (zz54_k2 N) (fun j st => (zz54_K2 N) (.exit j) st) N l0 t10 t11)).trans (congrArg (fun k => zz54_l2 N k N l0 t10 t11) h)
theorem run0_zz54 (N : Nat) (x : (S_zz54).a.den) : runF (A_zz54) N Try.f121 S_zz54 x = (zz54_s (zz54_R2 N N (zz54_K2 N)) x.1) := by kernel_rfl
theorem run_zz54 (N : Nat) (x : (S_zz54).a.den) : runF (A_zz54) N Try.f121 S_zz54 x = zz54 N x.1 := by
  refine (run0_zz54 N x).trans ?_
  rw [(funext fun l0 => (funext fun t10 => (funext fun t11 => zz54_in2 N l0 t10 t11)))]
  rfl
theorem fn_zz54 : FnOk Try.prog 121 := ⟨_, Try.func121, by kernel_rfl, by kernel_rfl⟩
theorem good_zz54 : Gx.Good Try.prog 121 S_zz54 := good_of_run Try.func121 (of_decide_eq_true (by kernel_rfl)) fun x r h => ⟨A_zz54, big, mkCfg_ok tabOk, mkCfg_sigs (show SigsOk Try.prog [] from trivial), (run_zz54 big x).trans h⟩

/-! zz55 -/
def zz55_s (p_0 : Y2) : Option ((Y1 × (Bool × Unit)) × Unit) :=
  (zz53 p_0).bind fun rq1 =>
  cond ((((), rq1.1.2).2).1)
  ((zz54 big rq1.1.1).bind fun rq2 =>
  some ((rq1.1.1, rq2.1.isNone, ()), (())))
  (some ((rq1.1.1, false, ()), (())))
def zz55 (p_0 : Y2) : Option ((Y1 × (Bool × Unit)) × Unit) := zz55_s p_0
def S_zz55 : Sig := { a := (.pair (.pair (.sl (.sl I)) .unit) .unit), md := [0], mf := [], m := .unit, r := (.tup (.pair (.opt (.pair (.sl (.sl .bool)) (.pair (.sl (.sl I)) (.pair (.sl (.sl I)) .unit)))) (.pair .bool .unit))), rf := (.p (.o (.p (.o (.o .i)) (.p (.o (.o .i)) (.p (.o (.o .i)) .i)))) .i), f := fun x => zz55 x.1 }
def A_zz55 : Cfg := mkCfg tab [(86, S_zz53), (121, S_zz54)] []
theorem run_zz55 (N : Nat) (x : (S_zz55).a.den) : runF (A_zz55) N Try.f99 S_zz55 x = zz55 x.1 := by kernel_rfl
theorem fn_zz55 : FnOk Try.prog 99 := ⟨_, Try.func99, by kernel_rfl, by kernel_rfl⟩
theorem good_zz55 : Gx.Good Try.prog 99 S_zz55 := good_of_run Try.func99 (of_decide_eq_true (by kernel_rfl)) fun x r h => ⟨A_zz55, big, mkCfg_ok tabOk, mkCfg_sigs (show SigsOk Try.prog [(86, S_zz53), (121, S_zz54)] from ⟨⟨fn_zz53, good_zz53⟩, ⟨fn_zz54, good_zz54⟩, trivial⟩), (run_zz55 big x).trans h⟩

/-! zz56 -/
def zz56_b3 (rec : Y1 → Int → Int → Int → Option (Int × Unit)) (k : Int → Option (Int × Unit)) (l0 : Y1) (b3 : Int) (t9 : Int) (t10 : Int) : Option (Int × Unit) :=
  cond (decide (t10 < t9))
  ((l0).bind fun xq2 =>
  (atI xq2.2.1 b3).bind fun xq3 =>
  (atI xq3 t10).bind fun xq4 =>
  rec l0 xq4 t9 (IntKind.i64.wrap (t10 + (1 : Int))))
  (k b3)
def zz56_a3 (b3 : Int) : Option (Int × Unit) :=
  some (b3, (()))
def zz56_s (L3 : Y1 → Int → Int → Int → Option (Int × Unit)) (l_0 : Y1) : Option (Int × Unit) :=
  (l_0).bind fun xq1 =>
  L3 l_0 (0 : Int) (xq1.1.length : Int) (0 : Int)
def zz56_l3 (N : Nat) (k : Int → Option (Int × Unit)) : Nat → Y1 → Int → Int → Int → Option (Int × Unit)
  | 0, _, _, _, _ => none
  | m + 1, l0, b3, t9, t10 => zz56_b3 (zz56_l3 N k m) k l0 b3 t9 t10
def zz56_F3 (N : Nat) (l0 : Y1) (b3 : Int) (t9 : Int) (t10 : Int) : Option (Int × Unit) := zz56_l3 N (zz56_a3) N l0 b3 t9 t10
def zz56 (N : Nat) (l_0 : Y1) : Option (Int × Unit) := zz56_s (zz56_F3 N) l_0
def S_zz56 : Sig := { a := (.pair (.opt (.pair (.sl (.sl .bool)) (.pair (.sl (.sl I)) (.pair (.sl (.sl I)) .unit)))) .unit), md := [0], mf := [], m := .unit, r := I, rf := .i, f := fun x => zz56 big x.1 }
def A_zz56 : Cfg := mkCfg tab [] [(6, [.as (.opt (.pair (.sl (.sl .bool)) (.pair (.sl (.sl I)) (.pair (.sl (.sl I)) .unit)))) .i, .drop, .drop, .as I .i, .drop, .drop, .drop, .drop, .drop, .as I .i, .as I .i]), (15, [.drop, .drop, .drop, .as I .i])]
noncomputable def zz56_R3 (N n : Nat) (K : Ex → St → Option (Int × Unit)) (l0 : Y1) (b3 : Int) (t9 : Int) (t10 : Int) : Option (Int × Unit) := iter ((A_zz56).shape 6) (run (A_zz56) N (codeAt Try.f135 [1, 1, 0, 1, 0, 0])) n ([.val (.opt (.pair (.sl (.sl .bool)) (.pair (.sl (.sl I)) (.pair (.sl (.sl I)) .unit)))) .i l0, .u, .u, .val I .i b3, .u, .u, .u, .u, .u, .val I .i t9, .val I .i t10] ++ List.replicate 14 .u) K
noncomputable abbrev zz56_z : Ex → St → Option (Int × Unit) := finish (A_zz56) S_zz56 Try.f135.results.toList
noncomputable abbrev zz56_X3 (kX : St → Option (Int × Unit)) : Int → Option (Int × Unit) := fun (b3 : Int) => kX ([.u, .u, .u, .val I .i b3] ++ List.replicate 21 .u)
noncomputable abbrev zz56_E3 (kX : St → Option (Int × Unit)) (kO : Nat → St → Option (Int × Unit)) : Ex → St → Option (Int × Unit) := exK zz56_z 0 ((A_zz56).shape 15) kX kO
theorem zz56_step3 (N : Nat) (m : Nat) (kX : St → Option (Int × Unit)) (kO : Nat → St → Option (Int × Unit)) (l0 : Y1) (b3 : Int) (t9 : Int) (t10 : Int) : zz56_R3 N (m + 1) (zz56_E3 kX kO) l0 b3 t9 t10 = zz56_b3 (zz56_R3 N m (zz56_E3 kX kO)) (zz56_X3 kX) l0 b3 t9 t10 := by kernel_rfl
theorem zz56_iter3 (N : Nat) (kX : St → Option (Int × Unit)) (kO : Nat → St → Option (Int × Unit)) : ∀ (n : Nat) (l0 : Y1) (b3 : Int) (t9 : Int) (t10 : Int), zz56_R3 N n (zz56_E3 kX kO) l0 b3 t9 t10 = zz56_l3 N (zz56_X3 kX) n l0 b3 t9 t10
  | 0, _, _, _, _ => rfl
  | m + 1, l0, b3, t9, t10 => by
    have hrec : zz56_R3 N m (zz56_E3 kX kO) = (zz56_l3 N (zz56_X3 kX) m) := (funext fun l0 => (funext fun b3 => (funext fun t9 => (funext fun t10 => zz56_iter3 N kX kO m l0 b3 t9 t10))))
    refine (zz56_step3 N m kX kO l0 b3 t9 t10).trans ?_
    rw [hrec]
    rfl
noncomputable abbrev zz56_K3 (N : Nat) : Ex → St → Option (Int × Unit) := (blockK 0 (seqK ((A_zz56).shape 15) (run (A_zz56) N (codeAt Try.f135 [1, 1, 1])) zz56_z))
noncomputable abbrev zz56_k3 (N : Nat) : St → Option (Int × Unit) := fun st' => run (A_zz56) N (codeAt Try.f135 [1, 1, 1]) st' zz56_z
theorem zz56_after3 (N : Nat) (b3 : Int) : zz56_X3 (zz56_k3 N) b3 = zz56_a3 b3 := by kernel_rfl
theorem zz56_in3 (N : Nat) (l0 : Y1) (b3 : Int) (t9 : Int) (t10 : Int) : zz56_R3 N N (zz56_K3 N) l0 b3 t9 t10 = zz56_F3 N l0 b3 t9 t10 :=
  have h : zz56_X3 (zz56_k3 N) = (zz56_a3) := (funext fun b3 => zz56_after3 N b3)
  ((iter_ex (fun st => by kernel_rfl) (fun st => by kernel_rfl)).trans (zz56_iter3 N (zz56_k3 N) (fun j st => (zz56_K3 N) (.exit j) st) N l0 b3 t9 t10)).trans (congrArg (fun k => zz56_l3 N k N l0 b3 t9 t10) h)
theorem run0_zz56 (N : Nat) (x : (S_zz56).a.den) : runF (A_zz56) N Try.f135 S_zz56 x = (zz56_s (zz56_R3 N N (zz56_K3 N)) x.1) := by kernel_rfl
theorem run_zz56 (N : Nat) (x : (S_zz56).a.den) : runF (A_zz56) N Try.f135 S_zz56 x = zz56 N x.1 := by
  refine (run0_zz56 N x).trans ?_
  rw [(funext fun l0 => (funext fun b3 => (funext fun t9 => (funext fun t10 => zz56_in3 N l0 b3 t9 t10))))]
  rfl
theorem fn_zz56 : FnOk Try.prog 135 := ⟨_, Try.func135, by kernel_rfl, by kernel_rfl⟩
theorem good_zz56 : Gx.Good Try.prog 135 S_zz56 := good_of_run Try.func135 (of_decide_eq_true (by kernel_rfl)) fun x r h => ⟨A_zz56, big, mkCfg_ok tabOk, mkCfg_sigs (show SigsOk Try.prog [] from trivial), (run_zz56 big x).trans h⟩

/-! zz57 -/
def zz57_b3 (rec : Y1 → Int → Int → Int → Option (Int × Unit)) (k : Int → Option (Int × Unit)) (l0 : Y1) (t3 : Int) (t9 : Int) (t10 : Int) : Option (Int × Unit) :=
  cond (decide (t10 < t9))
  ((l0).bind fun xq2 =>
  (atI xq2.2.2.1 t3).bind fun xq3 =>
  (atI xq3 t10).bind fun xq4 =>
  rec l0 xq4 t9 (IntKind.i64.wrap (t10 + (1 : Int))))
  (k t3)
def zz57_a3 (t3 : Int) : Option (Int × Unit) :=
  some (t3, (()))
def zz57_s (L3 : Y1 → Int → Int → Int → Option (Int × Unit)) (l_0 : Y1) : Option (Int × Unit) :=
  (l_0).bind fun xq1 =>
  L3 l_0 (0 : Int) (xq1.1.length : Int) (0 : Int)
def zz57_l3 (N : Nat) (k : Int → Option (Int × Unit)) : Nat → Y1 → Int → Int → Int → Option (Int × Unit)
  | 0, _, _, _, _ => none
  | m + 1, l0, t3, t9, t10 => zz57_b3 (zz57_l3 N k m) k l0 t3 t9 t10
def zz57_F3 (N : Nat) (l0 : Y1) (t3 : Int) (t9 : Int) (t10 : Int) : Option (Int × Unit) := zz57_l3 N (zz57_a3) N l0 t3 t9 t10
def zz57 (N : Nat) (l_0 : Y1) : Option (Int × Unit) := zz57_s (zz57_F3 N) l_0
def S_zz57 : Sig := { a := (.pair (.opt (.pair (.sl (.sl .bool)) (.pair (.sl (.sl I)) (.pair (.sl (.sl I)) .unit)))) .unit), md := [0], mf := [], m := .unit, r := I, rf := .i, f := fun x => zz57 big x.1 }
def A_zz57 : Cfg := mkCfg tab [] [(6, [.as (.opt (.pair (.sl (.sl .bool)) (.pair (.sl (.sl I)) (.pair (.sl (.sl I)) .unit)))) .i, .drop, .drop, .as I .i, .drop, .drop, .drop, .drop, .drop, .as I .i, .as I .i]), (15, [.drop, .drop, .drop, .as I .i])]
noncomputable def zz57_R3 (N n : Nat) (K : Ex → St → Option (Int × Unit)) (l0 : Y1) (t3 : Int) (t9 : Int) (t10 : Int) : Option (Int × Unit) := iter ((A_zz57).shape 6) (run (A_zz57) N (codeAt Try.f136 [1, 1, 0, 1, 0, 0])) n ([.val (.opt (.pair (.sl (.sl .bool)) (.pair (.sl (.sl I)) (.pair (.sl (.sl I)) .unit)))) .i l0, .u, .u, .val I .i t3, .u, .u, .u, .u, .u, .val I .i t9, .val I .i t10] ++ List.replicate 14 .u) K
noncomputable abbrev zz57_z : Ex → St → Option (Int × Unit) := finish (A_zz57) S_zz57 Try.f136.results.toList
noncomputable abbrev zz57_X3 (kX : St → Option (Int × Unit)) : Int → Option (Int × Unit) := fun (t3 : Int) => kX ([.u, .u, .u, .val I .i t3] ++ List.replicate 21 .u)
noncomputable abbrev zz57_E3 (kX : St → Option (Int × Unit)) (kO : Nat → St → Option (Int × Unit)) : Ex → St → Option (Int × Unit) := exK zz57_z 0 ((A_zz57).shape 15) kX kO
theorem zz57_step3 (N : Nat) (m : Nat) (kX : St → Option (Int × Unit)) (kO : Nat → St → Option (Int × Unit)) (l0 : Y1) (t3 : Int) (t9 : Int) (t10 : Int) : zz57_R3 N (m + 1) (zz57_E3 kX kO) l0 t3 t9 t10 = zz57_b3 (zz57_R3 N m (zz57_E3 kX kO)) (zz57_X3 kX) l0 t3 t9 t10 := by kernel_rfl
theorem zz57_iter3 (N : Nat) (kX : St → Option (Int × Unit)) (kO : Nat → St → Option (Int × Unit)) : ∀ (n : Nat) (l0 : Y1) (t3 : Int) (t9 : Int) (t10 : Int), zz57_R3 N n (zz57_E3 kX kO) l0 t3 t9 t10 = zz57_l3 N (zz57_X3 kX) n l0 t3 t9 t10
  | 0, _, _, _, _ => rfl
  | m + 1, l0, t3, t9, t10 => by
    have hrec : zz57_R3 N m (zz57_E3 kX kO) = (zz57_l3 N (zz57_X3 kX) m) := (funext fun l0 => (funext fun t3 => (funext fun t9 => (funext fun t10 => zz57_iter3 N kX kO m l0 t3 t9 t10))))
    refine (zz57_step3 N m kX kO l0 t3 t9 t10).trans ?_
    rw [hrec]
    rfl
noncomputable abbrev zz57_K3 (N : Nat) : Ex → St → Option (Int × Unit) := (blockK 0 (seqK ((A_zz57).shape 15) (run (A_zz57) N (codeAt Try.f136 [1, 1, 1])) zz57_z))
noncomputable abbrev zz57_k3 (N : Nat) : St → Option (Int × Unit) := fun st' => run (A_zz57) N (codeAt Try.f136 [1, 1, 1]) st' zz57_z
theorem zz57_after3 (N : Nat) (t3 : Int) : zz57_X3 (zz57_k3 N) t3 = zz57_a3 t3 := by kernel_rfl
theorem zz57_in3 (N : Nat) (l0 : Y1) (t3 : Int) (t9 : Int) (t10 : Int) : zz57_R3 N N (zz57_K3 N) l0 t3 t9 t10 = zz57_F3 N l0 t3 t9 t10 :=
  have h : zz57_X3 (zz57_k3 N) = (zz57_a3) := (funext fun t3 => zz57_after3 N t3)
  ((iter_ex (fun st => by kernel_rfl) (fun st => by kernel_rfl)).trans (zz57_iter3 N (zz57_k3 N) (fun j st => (zz57_K3 N) (.exit j) st) N l0 t3 t9 t10)).trans (congrArg (fun k => zz57_l3 N k N l0 t3 t9 t10) h)
theorem run0_zz57 (N : Nat) (x : (S_zz57).a.den) : runF (A_zz57) N Try.f136 S_zz57 x = (zz57_s (zz57_R3 N N (zz57_K3 N)) x.1) := by kernel_rfl
theorem run_zz57 (N : Nat) (x : (S_zz57).a.den) : runF (A_zz57) N Try.f136 S_zz57 x = zz57 N x.1 := by
  refine (run0_zz57 N x).trans ?_
  rw [(funext fun l0 => (funext fun t3 => (funext fun t9 => (funext fun t10 => zz57_in3 N l0 t3 t9 t10))))]
  rfl
theorem fn_zz57 : FnOk Try.prog 136 := ⟨_, Try.func136, by kernel_rfl, by kernel_rfl⟩
theorem good_zz57 : Gx.Good Try.prog 136 S_zz57 := good_of_run Try.func136 (of_decide_eq_true (by kernel_rfl)) fun x r h => ⟨A_zz57, big, mkCfg_ok tabOk, mkCfg_sigs (show SigsOk Try.prog [] from trivial), (run_zz57 big x).trans h⟩

/-! zz58 -/
def zz58_s (c_0 : Int) (p_1 : Y1) (p_2 : Int) (p_3 : Int) (p_4 : Int) : Option (Bool × Unit) :=
  (p_1).bind fun xq1 =>
  (atI xq1.2.1 c_0).bind fun xq2 =>
  (atI xq2 p_2).bind fun xq3 =>
  cond (decide (xq3 = p_3))
  ((p_1).bind fun xq4 =>
  (atI xq4.2.2.1 c_0).bind fun xq5 =>
  (atI xq5 p_2).bind fun xq6 =>
  some (decide (xq6 = p_4), (())))
  (some (false, (())))
def zz58 (c_0 : Int) (p_1 : Y1) (p_2 : Int) (p_3 : Int) (p_4 : Int) : Option (Bool × Unit) := zz58_s c_0 p_1 p_2 p_3 p_4
def S_zz58 : Sig := { a := (.pair I (.pair (.ptr (.opt (.pair (.sl (.sl .bool)) (.pair (.sl (.sl I)) (.pair (.sl (.sl I)) .unit))))) (.pair (.ptr I) (.pair (.ptr I) (.pair (.ptr I) .unit))))), md := [0, 0, 0, 0, 0], mf := [], m := .unit, r := .bool, rf := .i, f := fun x => zz58 x.1 x.2.1 x.2.2.1 x.2.2.2.1 x.2.2.2.2.1 }
def A_zz58 : Cfg := mkCfg tab [] []
theorem run_zz58 (N : Nat) (x : (S_zz58).a.den) : runF (A_zz58) N Try.f137 S_zz58 x = zz58 x.1 x.2.1 x.2.2.1 x.2.2.2.1 x.2.2.2.2.1 := by kernel_rfl
theorem fn_zz58 : FnOk Try.prog 137 := ⟨_, Try.func137, by kernel_rfl, by kernel_rfl⟩
theorem good_zz58 : Gx.Good Try.prog 137 S_zz58 := good_of_run Try.func137 (of_decide_eq_true (by kernel_rfl)) fun x r h => ⟨A_zz58, big, mkCfg_ok tabOk, mkCfg_sigs (show SigsOk Try.prog [] from trivial), (run_zz58 big x).trans h⟩

/-! zz59 -/
def zz59_b3 (rec : (Y1 × (Int × (Int × (Int × Unit)))) → Y4 → Int → Int → Option (Y4 × Unit)) (k : Y4 → Option (Y4 × Unit)) (so1 : (Y1 × (Int × (Int × (Int × Unit))))) (list5 : Y4) (t9 : Int) (t10 : Int) : Option (Y4 × Unit) :=
  cond (decide (t10 < t9))
  ((zz58 t10 so1.1 so1.2.1 so1.2.2.1 so1.2.2.2.1).bind fun rq1 =>
  cond rq1.1
  ((appI list5 [t10]).bind fun xq2 =>
  rec so1 xq2 t9 (IntKind.i64.wrap (t10 + (1 : Int))))
  (rec so1 list5 t9 (IntKind.i64.wrap (t10 + (1 : Int)))))
  (k list5)
def zz59_a3 (list5 : Y4) : Option (Y4 × Unit) :=
  some (list5, (()))
def zz59_s (L3 : (Y1 × (Int × (Int × (Int × Unit)))) → Y4 → Int → Int → Option (Y4 × Unit)) (o_0 : Y5) (so_1 : (Y1 × (Int × (Int × (Int × Unit))))) : Option (Y4 × Unit) :=
  L3 so_1 [] (o_0.length : Int) (0 : Int)
def zz59_l3 (N : Nat) (k : Y4 → Option (Y4 × Unit)) : Nat → (Y1 × (Int × (Int × (Int × Unit)))) → Y4 → Int → Int → Option (Y4 × Unit)
  | 0, _, _, _, _ => none
  | m + 1, so1, list5, t9, t10 => zz59_b3 (zz59_l3 N k m) k so1 list5 t9 t10
def zz59_F3 (N : Nat) (so1 : (Y1 × (Int × (Int × (Int × Unit))))) (list5 : Y4) (t9 : Int) (t10 : Int) : Option (Y4 × Unit) := zz59_l3 N (zz59_a3) N so1 list5 t9 t10
def zz59 (N : Nat) (o_0 : Y5) (so_1 : (Y1 × (Int × (Int × (Int × Unit))))) : Option (Y4 × Unit) := zz59_s (zz59_F3 N) o_0 so_1
def S_zz59 : Sig := { a := (.pair (.sl (.sl .bool)) (.pair (.clo 137 0 (.pair (.ptr (.opt (.pair (.sl (.sl .bool)) (.pair (.sl (.sl I)) (.pair (.sl (.sl I)) .unit))))) (.pair (.ptr I) (.pair (.ptr I) (.pair (.ptr I) .unit))))) .unit)), md := [0, 0], mf := [], m := .unit, r := (.sl I), rf := (.o .i), f := fun x => zz59 big x.1 x.2.1 }
def A_zz59 : Cfg := mkCfg tab [(137, S_zz58)] [(6, [.drop, .as (.clo 137 0 (.pair (.ptr (.opt (.pair (.sl (.sl .bool)) (.pair (.sl (.sl I)) (.pair (.sl (.sl I)) .unit))))) (.pair (.ptr I) (.pair (.ptr I) (.pair (.ptr I) .unit))))) .i, .drop, .drop, .drop, .as (.sl I) (.o .i), .drop, .drop, .drop, .as I .i, .as I .i]), (17, [.drop, .drop, .drop, .drop, .drop, .as (.sl I) (.o .i)])]
noncomputable def zz59_R3 (N n : Nat) (K : Ex → St → Option (Y4 × Unit)) (so1 : (Y1 × (Int × (Int × (Int × Unit))))) (list5 : Y4) (t9 : Int) (t10 : Int) : Option (Y4 × Unit) := iter ((A_zz59).shape 6) (run (A_zz59) N (codeAt Try.f132 [1, 1, 0, 1, 0, 0])) n ([.u, .val (.clo 137 0 (.pair (.ptr (.opt (.pair (.sl (.sl .bool)) (.pair (.sl (.sl I)) (.pair (.sl (.sl I)) .unit))))) (.pair (.ptr I) (.pair (.ptr I) (.pair (.ptr I) .unit))))) .i so1, .u, .u, .u, .val (.sl I) (.o .i) list5, .u, .u, .u, .val I .i t9, .val I .i t10] ++ List.replicate 11 .u) K
noncomputable abbrev zz59_z : Ex → St → Option (Y4 × Unit) := finish (A_zz59) S_zz59 Try.f132.results.toList
noncomputable abbrev zz59_X3 (kX : St → Option (Y4 × Unit)) : Y4 → Option (Y4 × Unit) := fun (list5 : Y4) => kX ([.u, .u, .u, .u, .u, .val (.sl I) (.o .i) list5] ++ List.replicate 16 .u)
noncomputable abbrev zz59_E3 (kX : St → Option (Y4 × Unit)) (kO : Nat → St → Option (Y4 × Unit)) : Ex → St → Option (Y4 × Unit) := exK zz59_z 0 ((A_zz59).shape 17) kX kO
theorem zz59_step3 (N : Nat) (m : Nat) (kX : St → Option (Y4 × Unit)) (kO : Nat → St → Option (Y4 × Unit)) (so1 : (Y1 × (Int × (Int × (Int × Unit))))) (list5 : Y4) (t9 : Int) (t10 : Int) : zz59_R3 N (m + 1) (zz59_E3 kX kO) so1 list5 t9 t10 = zz59_b3 (zz59_R3 N m (zz59_E3 kX kO)) (zz59_X3 kX) so1 list5 t9 t10 := by kernel_rfl
theorem zz59_iter3 (N : Nat) (kX : St → Option (Y4 × Unit)) (kO : Nat → St → Option (Y4 × Unit)) : ∀ (n : Nat) (so1 : (Y1 × (Int × (Int × (Int × Unit))))) (list5 : Y4) (t9 : Int) (t10 : Int), zz59_R3 N n (zz59_E3 kX kO) so1 list5 t9 t10 = zz59_l3 N (zz59_X3 kX) n so1 list5 t9 t10
  | 0, _, _, _, _ => rfl
  | m + 1, so1, list5, t9, t10 => by
    have hrec : zz59_R3 N m (zz59_E3 kX kO) = (zz59_l3 N (zz59_X3 kX) m) := (funext fun so1 => (funext fun list5 => (funext fun t9 => (funext fun t10 => zz59_iter3 N kX kO m so1 list5 t9 t10))))
    refine (zz59_step3 N m kX kO so1 list5 t9 t10).trans ?_
    rw [hrec]
    rfl
noncomputable abbrev zz59_K3 (N : Nat) : Ex → St → Option (Y4 × Unit) := (blockK 0 (seqK ((A_zz59).shape 17) (run (A_zz59) N (codeAt Try.f132 [1, 1, 1])) zz59_z))
noncomputable abbrev zz59_k3 (N : Nat) : St → Option (Y4 × Unit) := fun st' => run (A_zz59) N (codeAt Try.f132 [1, 1, 1]) st' zz59_z
theorem zz59_after3 (N : Nat) (list5 : Y4) : zz59_X3 (zz59_k3 N) list5 = zz59_a3 list5 := by kernel_rfl
theorem zz59_in3 (N : Nat) (so1 : (Y1 × (Int × (Int × (Int × Unit))))) (list5 : Y4) (t9 : Int) (t10 : Int) : zz59_R3 N N (zz59_K3 N) so1 list5 t9 t10 = zz59_F3 N so1 list5 t9 t10 :=
  have h : zz59_X3 (zz59_k3 N) = (zz59_a3) := (funext fun list5 => zz59_after3 N list5)
  ((iter_ex (fun st => by kernel_rfl) (fun st => by kernel_rfl)).trans (zz59_iter3 N (zz59_k3 N) (fun j st => (zz59_K3 N) (.exit j) st) N so1 list5 t9 t10)).trans (congrArg (fun k => zz59_l3 N k N so1 list5 t9 t10) h)
theorem run0_zz59 (N : Nat) (x : (S_zz59).a.den) : runF (A_zz59) N Try.f132 S_zz59 x = (zz59_s (zz59_R3 N N (zz59_K3 N)) x.1 x.2.1) := by kernel_rfl
theorem run_zz59 (N : Nat) (x : (S_zz59).a.den) : runF (A_zz59) N Try.f132 S_zz59 x = zz59 N x.1 x.2.1 := by
  refine (run0_zz59 N x).trans ?_
  rw [(funext fun so1 => (funext fun list5 => (funext fun t9 => (funext fun t10 => zz59_in3 N so1 list5 t9 t10))))]
  rfl
theorem fn_zz59 : FnOk Try.prog 132 := ⟨_, Try.func132, by kernel_rfl, by kernel_rfl⟩
theorem good_zz59 : Gx.Good Try.prog 132 S_zz59 := good_of_run Try.func132 (of_decide_eq_true (by kernel_rfl)) fun x r h => ⟨A_zz59, big, mkCfg_ok tabOk, mkCfg_sigs (show SigsOk Try.prog [(137, S_zz58)] from ⟨⟨fn_zz58, good_zz58⟩, trivial⟩), (run_zz59 big x).trans h⟩

/-! zz60 -/
def zz60_s (l_0 : Y1) (x_1 : Int) (y_2 : Int) (z_3 : Int) : Option (Y4 × Unit) :=
  (l_0).bind fun xq1 =>
  (zz59 big xq1.1 (l_0, y_2, x_1, z_3, ())).bind fun rq2 =>
  some (rq2.1, (()))
def zz60 (l_0 : Y1) (x_1 : Int) (y_2 : Int) (z_3 : Int) : Option (Y4 × Unit) := zz60_s l_0 x_1 y_2 z_3
def S_zz60 : Sig := { a := (.pair (.opt (.pair (.sl (.sl .bool)) (.pair (.sl (.sl I)) (.pair (.sl (.sl I)) .unit)))) (.pair I (.pair I (.pair I .unit)))), md := [0, 0, 0, 0], mf := [], m := .unit, r := (.sl I), rf := (.o .i), f := fun x => zz60 x.1 x.2.1 x.2.2.1 x.2.2.2.1 }
def A_zz60 : Cfg := mkCfg tab [(132, S_zz59)] [(3, [.drop, .drop, .drop, .drop, .as (.ptr (.opt (.pair (.sl (.sl .bool)) (.pair (.sl (.sl I)) (.pair (.sl (.sl I)) .unit))))) .i, .as (.ptr I) .i, .as (.ptr I) .i, .as (.ptr I) .i])]
theorem run_zz60 (N : Nat) (x : (S_zz60).a.den) : runF (A_zz60) N Try.f134 S_zz60 x = zz60 x.1 x.2.1 x.2.2.1 x.2.2.2.1 := by kernel_rfl
theorem fn_zz60 : FnOk Try.prog 134 := ⟨_, Try.func134, by kernel_rfl, by kernel_rfl⟩
theorem good_zz60 : Gx.Good Try.prog 134 S_zz60 := good_of_run Try.func134 (of_decide_eq_true (by kernel_rfl)) fun x r h => ⟨A_zz60, big, mkCfg_ok tabOk, mkCfg_sigs (show SigsOk Try.prog [(132, S_zz59)] from ⟨⟨fn_zz59, good_zz59⟩, trivial⟩), (run_zz60 big x).trans h⟩

/-! zz61 -/
def zz61_s (l_0 : Y1) (x_1 : Int) : Option (Y4 × Unit) :=
  (zz56 big l_0).bind fun rq1 =>
  (zz57 big l_0).bind fun rq2 =>
  (zz60 l_0 rq1.1 x_1 rq2.1).bind fun rq3 =>
  some (rq3.1, (()))
def zz61 (l_0 : Y1) (x_1 : Int) : Option (Y4 × Unit) := zz61_s l_0 x_1
def S_zz61 : Sig := { a := (.pair (.opt (.pair (.sl (.sl .bool)) (.pair (.sl (.sl I)) (.pair (.sl (.sl I)) .unit)))) (.pair I .unit)), md := [0, 0], mf := [], m := .unit, r := (.sl I), rf := (.o .i), f := fun x => zz61 x.1 x.2.1 }
def A_zz61 : Cfg := mkCfg tab [(135, S_zz56), (136, S_zz57), (134, S_zz60)] []
theorem run_zz61 (N : Nat) (x : (S_zz61).a.den) : runF (A_zz61) N Try.f124 S_zz61 x = zz61 x.1 x.2.1 := by kernel_rfl
theorem fn_zz61 : FnOk Try.prog 124 := ⟨_, Try.func124, by kernel_rfl, by kernel_rfl⟩
theorem good_zz61 : Gx.Good Try.prog 124 S_zz61 := good_of_run Try.func124 (of_decide_eq_true (by kernel_rfl)) fun x r h => ⟨A_zz61, big, mkCfg_ok tabOk, mkCfg_sigs (show SigsOk Try.prog [(135, S_zz56), (136, S_zz57), (134, S_zz60)] from ⟨⟨fn_zz56, good_zz56⟩, ⟨fn_zz57, good_zz57⟩, ⟨fn_zz60, good_zz60⟩, trivial⟩), (run_zz61 big x).trans h⟩

/-! zz62 -/
def zz62_s (x_0 : Int) (p_1 : Y1) : Option (Bool × Unit) :=
  (zz61 p_1 x_0).bind fun rq1 =>
  some (decide ((rq1.1.length : Int) = (0 : Int)), (()))
def zz62 (x_0 : Int) (p_1 : Y1) : Option (Bool × Unit) := zz62_s x_0 p_1
def S_zz62 : Sig := { a := (.pair I (.pair (.ptr (.opt (.pair (.sl (.sl .bool)) (.pair (.sl (.sl I)) (.pair (.sl (.sl I)) .unit))))) .unit)), md := [0, 0], mf := [], m := .unit, r := .bool, rf := .i, f := fun x => zz62 x.1 x.2.1 }
def A_zz62 : Cfg := mkCfg tab [(124, S_zz61)] []
theorem run_zz62 (N : Nat) (x : (S_zz62).a.den) : runF (A_zz62) N Try.f123 S_zz62 x = zz62 x.1 x.2.1 := by kernel_rfl
theorem fn_zz62 : FnOk Try.prog 123 := ⟨_, Try.func123, by kernel_rfl, by kernel_rfl⟩
theorem good_zz62 : Gx.Good Try.prog 123 S_zz62 := good_of_run Try.func123 (of_decide_eq_true (by kernel_rfl)) fun x r h => ⟨A_zz62, big, mkCfg_ok tabOk, mkCfg_sigs (show SigsOk Try.prog [(124, S_zz61)] from ⟨⟨fn_zz61, good_zz61⟩, trivial⟩), (run_zz62 big x).trans h⟩

/-! zz63 -/
def zz63_b3 (rec : (Y1 × Unit) → Y4 → Int → Int → Option (Y4 × Unit)) (k : Y4 → Option (Y4 × Unit)) (so1 : (Y1 × Unit)) (list5 : Y4) (t9 : Int) (t10 : Int) : Option (Y4 × Unit) :=
  cond (decide (t10 < t9))
  ((zz62 t10 so1.1).bind fun rq1 =>
  cond rq1.1
  ((appI list5 [t10]).bind fun xq2 =>
  rec so1 xq2 t9 (IntKind.i64.wrap (t10 + (1 : Int))))
  (rec so1 list5 t9 (IntKind.i64.wrap (t10 + (1 : Int)))))
  (k list5)
def zz63_a3 (list5 : Y4) : Option (Y4 × Unit) :=
  some (list5, (()))
def zz63_s (L3 : (Y1 × Unit) → Y4 → Int → Int → Option (Y4 × Unit)) (o_0 : Y5) (so_1 : (Y1 × Unit)) : Option (Y4 × Unit) :=
  L3 so_1 [] (o_0.length : Int) (0 : Int)
def zz63_l3 (N : Nat) (k : Y4 → Option (Y4 × Unit)) : Nat → (Y1 × Unit) → Y4 → Int → Int → Option (Y4 × Unit)
  | 0, _, _, _, _ => none
  | m + 1, so1, list5, t9, t10 => zz63_b3 (zz63_l3 N k m) k so1 list5 t9 t10
def zz63_F3 (N : Nat) (so1 : (Y1 × Unit)) (list5 : Y4) (t9 : Int) (t10 : Int) : Option (Y4 × Unit) := zz63_l3 N (zz63_a3) N so1 list5 t9 t10
def zz63 (N : Nat) (o_0 : Y5) (so_1 : (Y1 × Unit)) : Option (Y4 × Unit) := zz63_s (zz63_F3 N) o_0 so_1
def S_zz63 : Sig := { a := (.pair (.sl (.sl .bool)) (.pair (.clo 123 0 (.pair (.ptr (.opt (.pair (.sl (.sl .bool)) (.pair (.sl (.sl I)) (.pair (.sl (.sl I)) .unit))))) .unit)) .unit)), md := [0, 0], mf := [], m := .unit, r := (.sl I), rf := (.o .i), f := fun x => zz63 big x.1 x.2.1 }
def A_zz63 : Cfg := mkCfg tab [(123, S_zz62)] [(6, [.drop, .as (.clo 123 0 (.pair (.ptr (.opt (.pair (.sl (.sl .bool)) (.pair (.sl (.sl I)) (.pair (.sl (.sl I)) .unit))))) .unit)) .i, .drop, .drop, .drop, .as (.sl I) (.o .i), .drop, .drop, .drop, .as I .i, .as I .i]), (17, [.drop, .drop, .drop, .drop, .drop, .as (.sl I) (.o .i)])]
noncomputable def zz63_R3 (N n : Nat) (K : Ex → St → Option (Y4 × Unit)) (so1 : (Y1 × Unit)) (list5 : Y4) (t9 : Int) (t10 : Int) : Option (Y4 × Unit) := iter ((A_zz63).shape 6) (run (A_zz63) N (codeAt Try.f132 [1, 1, 0, 1, 0, 0])) n ([.u, .val (.clo 123 0 (.pair (.ptr (.opt (.pair (.sl (.sl .bool)) (.pair (.sl (.sl I)) (.pair (.sl (.sl I)) .unit))))) .unit)) .i so1, .u, .u, .u, .val (.sl I) (.o .i) list5, .u, .u, .u, .val I .i t9, .val I .i t10] ++ List.replicate 11 .u) K
noncomputable abbrev zz63_z : Ex → St → Option (Y4 × Unit) := finish (A_zz63) S_zz63 Try.f132.results.toList
noncomputable abbrev zz63_X3 (kX : St → Option (Y4 × Unit)) : Y4 → Option (Y4 × Unit) := fun (list5 : Y4) => kX ([.u, .u, .u, .u, .u, .val (.sl I) (.o .i) list5] ++ List.replicate 16 .u)
noncomputable abbrev zz63_E3 (kX : St → Option (Y4 × Unit)) (kO : Nat → St → Option (Y4 × Unit)) : Ex → St → Option (Y4 × Unit) := exK zz63_z 0 ((A_zz63).shape 17) kX kO
theorem zz63_step3 (N : Nat) (m : Nat) (kX : St → Option (Y4 × Unit)) (kO : Nat → St → Option (Y4 × Unit)) (so1 : (Y1 × Unit)) (list5 : Y4) (t9 : Int) (t10 : Int) : zz63_R3 N (m + 1) (zz63_E3 kX kO) so1 list5 t9 t10 = zz63_b3 (zz63_R3 N m (zz63_E3 kX kO)) (zz63_X3 kX) so1 list5 t9 t10 := by kernel_rfl
theorem zz63_iter3 (N : Nat) (kX : St → Option (Y4 × Unit)) (kO : Nat → St → Option (Y4 × Unit)) : ∀ (n : Nat) (so1 : (Y1 × Unit)) (list5 : Y4) (t9 : Int) (t10 : Int), zz63_R3 N n (zz63_E3 kX kO) so1 list5 t9 t10 = zz63_l3 N (zz63_X3 kX) n so1 list5 t9 t10
  | 0, _, _, _, _ => rfl
  | m + 1, so1, list5, t9, t10 => by
    have hrec : zz63_R3 N m (zz63_E3 kX kO) = (zz63_l3 N (zz63_X3 kX) m) := (funext fun so1 => (funext fun list5 => (funext fun t9 => (funext fun t10 => zz63_iter3 N kX kO m so1 list5 t9 t10))))
    refine (zz63_step3 N m kX kO so1 list5 t9 t10).trans ?_
    rw [hrec]
    rfl
noncomputable abbrev zz63_K3 (N : Nat) : Ex → St → Option (Y4 × Unit) := (blockK 0 (seqK ((A_zz63).shape 17) (run (A_zz63) N (codeAt Try.f132 [1, 1, 1])) zz63_z))
noncomputable abbrev zz63_k3 (N : Nat) : St → Option (Y4 × Unit) := fun st' => run (A_zz63) N (codeAt Try.f132 [1, 1, 1]) st' zz63_z
theorem zz63_after3 (N : Nat) (list5 : Y4) : zz63_X3 (zz63_k3 N) list5 = zz63_a3 list5 := by kernel_rfl
theorem zz63_in3 (N : Nat) (so1 : (Y1 × Unit)) (list5 : Y4) (t9 : Int) (t10 : Int) : zz63_R3 N N (zz63_K3 N) so1 list5 t9 t10 = zz63_F3 N so1 list5 t9 t10 :=
  have h : zz63_X3 (zz63_k3 N) = (zz63_a3) := (funext fun list5 => zz63_after3 N list5)
  ((iter_ex (fun st => by kernel_rfl) (fun st => by kernel_rfl)).trans (zz63_iter3 N (zz63_k3 N) (fun j st => (zz63_K3 N) (.exit j) st) N so1 list5 t9 t10)).trans (congrArg (fun k => zz63_l3 N k N so1 list5 t9 t10) h)
theorem run0_zz63 (N : Nat) (x : (S_zz63).a.den) : runF (A_zz63) N Try.f132 S_zz63 x = (zz63_s (zz63_R3 N N (zz63_K3 N)) x.1 x.2.1) := by kernel_rfl
theorem run_zz63 (N : Nat) (x : (S_zz63).a.den) : runF (A_zz63) N Try.f132 S_zz63 x = zz63 N x.1 x.2.1 := by
  refine (run0_zz63 N x).trans ?_
  rw [(funext fun so1 => (funext fun list5 => (funext fun t9 => (funext fun t10 => zz63_in3 N so1 list5 t9 t10))))]
  rfl
theorem fn_zz63 : FnOk Try.prog 132 := ⟨_, Try.func132, by kernel_rfl, by kernel_rfl⟩
theorem good_zz63 : Gx.Good Try.prog 132 S_zz63 := good_of_run Try.func132 (of_decide_eq_true (by kernel_rfl)) fun x r h => ⟨A_zz63, big, mkCfg_ok tabOk, mkCfg_sigs (show SigsOk Try.prog [(123, S_zz62)] from ⟨⟨fn_zz62, good_zz62⟩, trivial⟩), (run_zz63 big x).trans h⟩

/-! zz64 -/
def zz64_s (o_0 : Y5) (so_1 : (Y1 × Unit)) : Option (Bool × Unit) :=
  (zz63 big o_0 so_1).bind fun rq1 =>
  some (decide ((rq1.1.length : Int) = (0 : Int)), (()))
def zz64 (o_0 : Y5) (so_1 : (Y1 × Unit)) : Option (Bool × Unit) := zz64_s o_0 so_1
def S_zz64 : Sig := { a := (.pair (.sl (.sl .bool)) (.pair (.clo 123 0 (.pair (.ptr (.opt (.pair (.sl (.sl .bool)) (.pair (.sl (.sl I)) (.pair (.sl (.sl I)) .unit))))) .unit)) .unit)), md := [0, 0], mf := [], m := .unit, r := .bool, rf := .i, f := fun x => zz64 x.1 x.2.1 }
def A_zz64 : Cfg := mkCfg tab [(132, S_zz63)] []
theorem run_zz64 (N : Nat) (x : (S_zz64).a.den) : runF (A_zz64) N Try.f122 S_zz64 x = zz64 x.1 x.2.1 := by kernel_rfl
theorem fn_zz64 : FnOk Try.prog 122 := ⟨_, Try.func122, by kernel_rfl, by kernel_rfl⟩
theorem good_zz64 : Gx.Good Try.prog 122 S_zz64 := good_of_run Try.func122 (of_decide_eq_true (by kernel_rfl)) fun x r h => ⟨A_zz64, big, mkCfg_ok tabOk, mkCfg_sigs (show SigsOk Try.prog [(132, S_zz63)] from ⟨⟨fn_zz63, good_zz63⟩, trivial⟩), (run_zz64 big x).trans h⟩

/-! zz65 -/
def zz65_s (l_0 : Y1) : Option (Bool × Unit) :=
  (l_0).bind fun xq1 =>
  (zz64 xq1.1 (l_0, ())).bind fun rq2 =>
  some (rq2.1, (()))
def zz65 (l_0 : Y1) : Option (Bool × Unit) := zz65_s l_0
def S_zz65 : Sig := { a := (.pair (.opt (.pair (.sl (.sl .bool)) (.pair (.sl (.sl I)) (.pair (.sl (.sl I)) .unit)))) .unit), md := [0], mf := [], m := .unit, r := .bool, rf := .i, f := fun x => zz65 x.1 }
def A_zz65 : Cfg := mkCfg tab [(122, S_zz64)] [(3, [.drop, .as (.ptr (.opt (.pair (.sl (.sl .bool)) (.pair (.sl (.sl I)) (.pair (.sl (.sl I)) .unit))))) .i])]
theorem run_zz65 (N : Nat) (x : (S_zz65).a.den) : runF (A_zz65) N Try.f100 S_zz65 x = zz65 x.1 := by kernel_rfl
theorem fn_zz65 : FnOk Try.prog 100 := ⟨_, Try.func100, by kernel_rfl, by kernel_rfl⟩
theorem good_zz65 : Gx.Good Try.prog 100 S_zz65 := good_of_run Try.func100 (of_decide_eq_true (by kernel_rfl)) fun x r h => ⟨A_zz65, big, mkCfg_ok tabOk, mkCfg_sigs (show SigsOk Try.prog [(122, S_zz64)] from ⟨⟨fn_zz64, good_zz64⟩, trivial⟩), (run_zz65 big x).trans h⟩

/-! zz66 -/
def zz66_s (p_0 : Y2) : Option ((Y1 × (Bool × Unit)) × Unit) :=
  (zz55 p_0).bind fun rq1 =>
  cond ((((), rq1.1.2).2).1)
  ((zz65 rq1.1.1).bind fun rq2 =>
  some ((rq1.1.1, rq2.1, ()), (())))
  (some ((rq1.1.1, false, ()), (())))
def zz66 (p_0 : Y2) : Option ((Y1 × (Bool × Unit)) × Unit) := zz66_s p_0
def S_zz66 : Sig := { a := (.pair (.pair (.sl (.sl I)) .unit) .unit), md := [0], mf := [], m := .unit, r := (.tup (.pair (.opt (.pair (.sl (.sl .bool)) (.pair (.sl (.sl I)) (.pair (.sl (.sl I)) .unit)))) (.pair .bool .unit))), rf := (.p (.o (.p (.o (.o .i)) (.p (.o (.o .i)) (.p (.o (.o .i)) .i)))) .i), f := fun x => zz66 x.1 }
def A_zz66 : Cfg := mkCfg tab [(99, S_zz55), (100, S_zz65)] []
theorem run_zz66 (N : Nat) (x : (S_zz66).a.den) : runF (A_zz66) N Try.f69 S_zz66 x = zz66 x.1 := by kernel_rfl
theorem fn_zz66 : FnOk Try.prog 69 := ⟨_, Try.func69, by kernel_rfl, by kernel_rfl⟩
theorem good_zz66 : Gx.Good Try.prog 69 S_zz66 := good_of_run Try.func69 (of_decide_eq_true (by kernel_rfl)) fun x r h => ⟨A_zz66, big, mkCfg_ok tabOk, mkCfg_sigs (show SigsOk Try.prog [(99, S_zz55), (100, S_zz65)] from ⟨⟨fn_zz55, good_zz55⟩, ⟨fn_zz65, good_zz65⟩, trivial⟩), (run_zz66 big x).trans h⟩

/-! zz67 -/
def zz67_b3 (rec : Y1 → Y4 → Int → Int → Option (Y4 × Unit)) (k : Y4 → Option (Y4 × Unit)) (l0 : Y1) (list3 : Y4) (t10 : Int) (t11 : Int) : Option (Y4 × Unit) :=
  cond (decide (t11 < t10))
  ((zz61 l0 t11).bind fun rq2 =>
  (atI rq2.1 (0 : Int)).bind fun _ =>
  (rq2.1[(0 : Int).toNat]?).bind fun xq3 =>
  (appI list3 [xq3]).bind fun xq4 =>
  rec l0 xq4 t10 (IntKind.i64.wrap (t11 + (1 : Int))))
  (k list3)
def zz67_a3 (list3 : Y4) : Option (Y4 × Unit) :=
  some (list3, (()))
def zz67_s (L3 : Y1 → Y4 → Int → Int → Option (Y4 × Unit)) (l_0 : Y1) : Option (Y4 × Unit) :=
  (l_0).bind fun xq1 =>
  L3 l_0 [] (xq1.1.length : Int) (0 : Int)
def zz67_l3 (N : Nat) (k : Y4 → Option (Y4 × Unit)) : Nat → Y1 → Y4 → Int → Int → Option (Y4 × Unit)
  | 0, _, _, _, _ => none
  | m + 1, l0, list3, t10, t11 => zz67_b3 (zz67_l3 N k m) k l0 list3 t10 t11
def zz67_F3 (N : Nat) (l0 : Y1) (list3 : Y4) (t10 : Int) (t11 : Int) : Option (Y4 × Unit) := zz67_l3 N (zz67_a3) N l0 list3 t10 t11
def zz67 (N : Nat) (l_0 : Y1) : Option (Y4 × Unit) := zz67_s (zz67_F3 N) l_0
def S_zz67 : Sig := { a := (.pair (.opt (.pair (.sl (.sl .bool)) (.pair (.sl (.sl I)) (.pair (.sl (.sl I)) .unit)))) .unit), md := [0], mf := [], m := .unit, r := (.sl I), rf := (.o .i), f := fun x => zz67 big x.1 }
def A_zz67 : Cfg := mkCfg tab [(124, S_zz61)] [(6, [.as (.opt (.pair (.sl (.sl .bool)) (.pair (.sl (.sl I)) (.pair (.sl (.sl I)) .unit)))) .i, .drop, .drop, .as (.sl I) (.o .i), .drop, .drop, .drop, .drop, .drop, .drop, .as I .i, .as I .i]), (15, [.drop, .drop, .drop, .as (.sl I) (.o .i)])]
noncomputable def zz67_R3 (N n : Nat) (K : Ex → St → Option (Y4 × Unit)) (l0 : Y1) (list3 : Y4) (t10 : Int) (t11 : Int) : Option (Y4 × Unit) := iter ((A_zz67).shape 6) (run (A_zz67) N (codeAt Try.f125 [1, 1, 0, 1, 0, 0])) n ([.val (.opt (.pair (.sl (.sl .bool)) (.pair (.sl (.sl I)) (.pair (.sl (.sl I)) .unit)))) .i l0, .u, .u, .val (.sl I) (.o .i) list3, .u, .u, .u, .u, .u, .u, .val I .i t10, .val I .i t11] ++ List.replicate 12 .u) K
noncomputable abbrev zz67_z : Ex → St → Option (Y4 × Unit) := finish (A_zz67) S_zz67 Try.f125.results.toList
noncomputable abbrev zz67_X3 (kX : St → Option (Y4 × Unit)) : Y4 → Option (Y4 × Unit) := fun (list3 : Y4) => kX ([.u, .u, .u, .val (.sl I) (.o .i) list3] ++ List.replicate 20 .u)
noncomputable abbrev zz67_E3 (kX : St → Option (Y4 × Unit)) (kO : Nat → St → Option (Y4 × Unit)) : Ex → St → Option (Y4 × Unit) := exK zz67_z 0 ((A_zz67).shape 15) kX kO
theorem zz67_step3 (N : Nat) (m : Nat) (kX : St → Option (Y4 × Unit)) (kO : Nat → St → Option (Y4 × Unit)) (l0 : Y1) (list3 : Y4) (t10 : Int) (t11 : Int) : zz67_R3 N (m + 1) (zz67_E3 kX kO) l0 list3 t10 t11 = zz67_b3 (zz67_R3 N m (zz67_E3 kX kO)) (zz67_X3 kX) l0 list3 t10 t11 := by kernel_rfl
theorem zz67_iter3 (N : Nat) (kX : St → Option (Y4 × Unit)) (kO : Nat → St → Option (Y4 × Unit)) : ∀ (n : Nat) (l0 : Y1) (list3 : Y4) (t10 : Int) (t11 : Int), zz67_R3 N n (zz67_E3 kX kO) l0 list3 t10 t11 = zz67_l3 N (zz67_X3 kX) n l0 list3 t10 t11
  | 0, _, _, _, _ => rfl
  | m + 1, l0, list3, t10, t11 => by
    have hrec : zz67_R3 N m (zz67_E3 kX kO) = (zz67_l3 N (zz67_X3 kX) m) := (funext fun l0 => (funext fun list3 => (funext fun t10 => (funext fun t11 => zz67_iter3 N kX kO m l0 list3 t10 t11))))
    refine (zz67_step3 N m kX kO l0 list3 t10 t11).trans ?_
    rw [hrec]
    rfl
noncomputable abbrev zz67_K3 (N : Nat) : Ex → St → Option (Y4 × Unit) := (blockK 0 (seqK ((A_zz67).shape 15) (run (A_zz67) N (codeAt Try.f125 [1, 1, 1])) zz67_z))
noncomputable abbrev zz67_k3 (N : Nat) : St → Option (Y4 × Unit) := fun st' => run (A_zz67) N (codeAt Try.f125 [1, 1, 1]) st' zz67_z
theorem zz67_after3 (N : Nat) (list3 : Y4) : zz67_X3 (zz67_k3 N) list3 = zz67_a3 list3 := by kernel_rfl
theorem zz67_in3 (N : Nat) (l0 : Y1) (list3 : Y4) (t10 : Int) (t11 : Int) : zz67_R3 N N (zz67_K3 N) l0 list3 t10 t11 = zz67_F3 N l0 list3 t10 t11 :=
  have h : zz67_X3 (zz67_k3 N) = (zz67_a3) := (funext fun list3 => zz67_after3 N list3)
  ((iter_ex (fun st => by kernel_rfl) (fun st => by kernel_rfl)).trans (zz67_iter3 N (zz67_k3 N) (fun j st => (zz67_K3 N) (.exit j) st) N l0 list3 t10 t11)).trans (congrArg (fun k => zz67_l3 N k N l0 list3 t10 t11) h)
theorem run0_zz67 (N : Nat) (x : (S_zz67).a.den) : runF (A_zz67) N Try.f125 S_zz67 x = (zz67_s (zz67_R3 N N (zz67_K3 N)) x.1) := by kernel_rfl
theorem run_zz67 (N : Nat) (x : (S_zz67).a.den) : runF (A_zz67) N Try.f125 S_zz67 x = zz67 N x.1 := by
  refine (run0_zz67 N x).trans ?_
  rw [(funext fun l0 => (funext fun list3 => (funext fun t10 => (funext fun t11 => zz67_in3 N l0 list3 t10 t11))))]
  rfl
theorem fn_zz67 : FnOk Try.prog 125 := ⟨_, Try.func125, by kernel_rfl, by kernel_rfl⟩
theorem good_zz67 : Gx.Good Try.prog 125 S_zz67 := good_of_run Try.func125 (of_decide_eq_true (by kernel_rfl)) fun x r h => ⟨A_zz67, big, mkCfg_ok tabOk, mkCfg_sigs (show SigsOk Try.prog [(124, S_zz61)] from ⟨⟨fn_zz61, good_zz61⟩, trivial⟩), (run_zz67 big x).trans h⟩

/-! zz68 -/
def zz68_b8 (rec : Y1 → Y4 → Y3 → Int → Y4 → Int → Int → Int → Int → Option Y2) (k : Y1 → Y4 → Y3 → Y4 → Int → Int → Option Y2) (l0 : Y1) (not3 : Y4) (table4 : Y3) (x5 : Int) (row6 : Y4) (t15 : Int) (t16 : Int) (t24 : Int) (t25 : Int) : Option Y2 :=
  cond (decide (t25 < t24))
  ((l0).bind fun xq4 =>
  (l0).bind fun xq5 =>
  (atI xq5.2.1 x5).bind fun xq6 =>
  (atI not3 t25).bind fun _ =>
  (not3[t25.toNat]?).bind fun xq7 =>
  (atI xq6 xq7).bind fun xq8 =>
  (atI xq4.2.2.1 xq8).bind fun xq9 =>
  (l0).bind fun xq10 =>
  (atI not3 x5).bind fun _ =>
  (not3[x5.toNat]?).bind fun xq11 =>
  (atI xq10.2.1 xq11).bind fun xq12 =>
  (atI xq12 t25).bind fun xq13 =>
  (atI xq9 xq13).bind fun xq14 =>
  (appI row6 [xq14]).bind fun xq15 =>
  rec l0 not3 table4 x5 xq15 t15 t16 t24 (IntKind.i64.wrap (t25 + (1 : Int))))
  (k l0 not3 table4 row6 t15 t16)
def zz68_a8 (rec : Y1 → Y4 → Y3 → Int → Int → Option Y2) (l0 : Y1) (not3 : Y4) (table4 : Y3) (row6 : Y4) (t15 : Int) (t16 : Int) : Option Y2 :=
  (appI table4 [row6]).bind fun xq16 =>
  rec l0 not3 xq16 t15 (IntKind.i64.wrap (t16 + (1 : Int)))
def zz68_b4 (L8 : Y1 → Y4 → Y3 → Int → Y4 → Int → Int → Int → Int → Option Y2) (k : Y3 → Option Y2) (l0 : Y1) (not3 : Y4) (table4 : Y3) (t15 : Int) (t16 : Int) : Option Y2 :=
  cond (decide (t16 < t15))
  ((l0).bind fun xq3 =>
  L8 l0 not3 table4 t16 [] t15 t16 (xq3.1.length : Int) (0 : Int))
  (k table4)
def zz68_a4 (table4 : Y3) : Option Y2 :=
  some (table4, (()))
def zz68_s (L4 : Y1 → Y4 → Y3 → Int → Int → Option Y2) (l_0 : Y1) : Option Y2 :=
  (zz67 big l_0).bind fun rq1 =>
  (l_0).bind fun xq2 =>
  L4 l_0 rq1.1 [] (xq2.1.length : Int) (0 : Int)
def zz68_l8 (N : Nat) (k : Y1 → Y4 → Y3 → Y4 → Int → Int → Option Y2) : Nat → Y1 → Y4 → Y3 → Int → Y4 → Int → Int → Int → Int → Option Y2
  | 0, _, _, _, _, _, _, _, _, _ => none
  | m + 1, l0, not3, table4, x5, row6, t15, t16, t24, t25 => zz68_b8 (zz68_l8 N k m) k l0 not3 table4 x5 row6 t15 t16 t24 t25
def zz68_F8 (N : Nat) (rec : Y1 → Y4 → Y3 → Int → Int → Option Y2) (k : Y3 → Option Y2) (l0 : Y1) (not3 : Y4) (table4 : Y3) (x5 : Int) (row6 : Y4) (t15 : Int) (t16 : Int) (t24 : Int) (t25 : Int) : Option Y2 := zz68_l8 N (zz68_a8 rec) N l0 not3 table4 x5 row6 t15 t16 t24 t25
def zz68_l4 (N : Nat) (k : Y3 → Option Y2) : Nat → Y1 → Y4 → Y3 → Int → Int → Option Y2
  | 0, _, _, _, _, _ => none
  | m + 1, l0, not3, table4, t15, t16 => zz68_b4 (zz68_F8 N (zz68_l4 N k m) k) k l0 not3 table4 t15 t16
def zz68_F4 (N : Nat) (l0 : Y1) (not3 : Y4) (table4 : Y3) (t15 : Int) (t16 : Int) : Option Y2 := zz68_l4 N (zz68_a4) N l0 not3 table4 t15 t16
def zz68 (N : Nat) (l_0 : Y1) : Option Y2 := zz68_s (zz68_F4 N) l_0
def S_zz68 : Sig := { a := (.pair (.opt (.pair (.sl (.sl .bool)) (.pair (.sl (.sl I)) (.pair (.sl (.sl I)) .unit)))) .unit), md := [0], mf := [], m := .unit, r := (.sl (.sl I)), rf := (.o (.o .i)), f := fun x => zz68 big x.1 }
def A_zz68 : Cfg := mkCfg tab [(125, S_zz67)] [(8, [.as (.opt (.pair (.sl (.sl .bool)) (.pair (.sl (.sl I)) (.pair (.sl (.sl I)) .unit)))) .i, .drop, .drop, .as (.sl I) (.o .i), .as (.sl (.sl I)) (.o (.o .i)), .drop, .drop, .drop, .drop, .drop, .drop, .drop, .drop, .drop, .drop, .as I .i, .as I .i]), (16, [.as (.opt (.pair (.sl (.sl .bool)) (.pair (.sl (.sl I)) (.pair (.sl (.sl I)) .unit)))) .i, .drop, .drop, .as (.sl I) (.o .i), .as (.sl (.sl I)) (.o (.o .i)), .as I .i, .as (.sl I) (.o .i), .drop, .drop, .drop, .drop, .drop, .drop, .drop, .drop, .as I .i, .as I .i, .drop, .drop, .drop, .drop, .drop, .drop, .drop, .as I .i, .as I .i]), (29, [.drop, .drop, .drop, .drop, .as (.sl (.sl I)) (.o (.o .i))]), (25, [.as (.opt (.pair (.sl (.sl .bool)) (.pair (.sl (.sl I)) (.pair (.sl (.sl I)) .unit)))) .i, .drop, .drop, .as (.sl I) (.o .i), .as (.sl (.sl I)) (.o (.o .i)), .drop, .as (.sl I) (.o .i), .drop, .drop, .drop, .drop, .drop, .drop, .drop, .drop, .as I .i, .as I .i])]
noncomputable def zz68_R4 (N n : Nat) (K : Ex → St → Option Y2) (l0 : Y1) (not3 : Y4) (table4 : Y3) (t15 : Int) (t16 : Int) : Option Y2 := iter ((A_zz68).shape 8) (run (A_zz68) N (codeAt Try.f102 [1, 1, 1, 0, 1, 0, 0])) n ([.val (.opt (.pair (.sl (.sl .bool)) (.pair (.sl (.sl I)) (.pair (.sl (.sl I)) .unit)))) .i l0, .u, .u, .val (.sl I) (.o .i) not3, .val (.sl (.sl I)) (.o (.o .i)) table4, .u, .u, .u, .u, .u, .u, .u, .u, .u, .u, .val I .i t15, .val I .i t16] ++ List.replicate 55 .u) K
noncomputable def zz68_R8 (N n : Nat) (K : Ex → St → Option Y2) (l0 : Y1) (not3 : Y4) (table4 : Y3) (x5 : Int) (row6 : Y4) (t15 : Int) (t16 : Int) (t24 : Int) (t25 : Int) : Option Y2 := iter ((A_zz68).shape 16) (run (A_zz68) N (codeAt Try.f102 [1, 1, 1, 0, 1, 0, 0, 1, 1, 0, 0, 1, 1, 0, 1, 0, 0])) n ([.val (.opt (.pair (.sl (.sl .bool)) (.pair (.sl (.sl I)) (.pair (.sl (.sl I)) .unit)))) .i l0, .u, .u, .val (.sl I) (.o .i) not3, .val (.sl (.sl I)) (.o (.o .i)) table4, .val I .i x5, .val (.sl I) (.o .i) row6, .u, .u, .u, .u, .u, .u, .u, .u, .val I .i t15, .val I .i t16, .u, .u, .u, .u, .u, .u, .u, .val I .i t24, .val I .i t25] ++ List.replicate 46 .u) K
noncomputable abbrev zz68_z : Ex → St → Option Y2 := finish (A_zz68) S_zz68 Try.f102.results.toList
noncomputable abbrev zz68_X4 (kX : St → Option Y2) : Y3 → Option Y2 := fun (table4 : Y3) => kX ([.u, .u, .u, .u, .val (.sl (.sl I)) (.o (.o .i)) table4] ++ List.replicate 67 .u)
noncomputable abbrev zz68_E4 (kX : St → Option Y2) (kO : Nat → St → Option Y2) : Ex → St → Option Y2 := exK zz68_z 0 ((A_zz68).shape 29) kX kO
noncomputable abbrev zz68_X8 (kX : St → Option Y2) : Y1 → Y4 → Y3 → Y4 → Int → Int → Option Y2 := fun (l0 : Y1) (not3 : Y4) (table4 : Y3) (row6 : Y4) (t15 : Int) (t16 : Int) => kX ([.val (.opt (.pair (.sl (.sl .bool)) (.pair (.sl (.sl I)) (.pair (.sl (.sl I)) .unit)))) .i l0, .u, .u, .val (.sl I) (.o .i) not3, .val (.sl (.sl I)) (.o (.o .i)) table4, .u, .val (.sl I) (.o .i) row6, .u, .u, .u, .u, .u, .u, .u, .u, .val I .i t15, .val I .i t16] ++ List.replicate 55 .u)
noncomputable abbrev zz68_E8 (kX : St → Option Y2) (kO : Nat → St → Option Y2) : Ex → St → Option Y2 := exK zz68_z 2 ((A_zz68).shape 25) kX kO
theorem zz68_step8 (N : Nat) (m : Nat) (kX : St → Option Y2) (kO : Nat → St → Option Y2) (l0 : Y1) (not3 : Y4) (table4 : Y3) (x5 : Int) (row6 : Y4) (t15 : Int) (t16 : Int) (t24 : Int) (t25 : Int) : zz68_R8 N (m + 1) (zz68_E8 kX kO) l0 not3 table4 x5 row6 t15 t16 t24 t25 = zz68_b8 (zz68_R8 N m (zz68_E8 kX kO)) (zz68_X8 kX) l0 not3 table4 x5 row6 t15 t16 t24 t25 := by kernel_rfl
theorem zz68_iter8 (N : Nat) (kX : St → Option Y2) (kO : Nat → St → Option Y2) : ∀ (n : Nat) (l0 : Y1) (not3 : Y4) (table4 : Y3) (x5 : Int) (row6 : Y4) (t15 : Int) (t16 : Int) (t24 : Int) (t25 : Int), zz68_R8 N n (zz68_E8 kX kO) l0 not3 table4 x5 row6 t15 t16 t24 t25 = zz68_l8 N (zz68_X8 kX) n l0 not3 table4 x5 row6 t15 t16 t24 t25
  | 0, _, _, _, _, _, _, _, _, _ => rfl
  | m + 1, l0, not3, table4, x5, row6, t15, t16, t24, t25 => by
    have hrec : zz68_R8 N m (zz68_E8 kX kO) = (zz68_l8 N (zz68_X8 kX) m) := (funext fun l0 => (funext fun not3 => (funext fun table4 => (funext fun x5 => (funext fun row6 => (funext fun t15 => (funext fun t16 => (funext fun t24 => (funext fun t25 => zz68_iter8 N kX kO m l0 not3 table4 x5 row6 t15 t16 t24 t25)))))))))
    refine (zz68_step8 N m kX kO l0 not3 table4 x5 row6 t15 t16 t24 t25).trans ?_
    rw [hrec]
    rfl
noncomputable abbrev zz68_K8 (N : Nat) (m : Nat) (kX : St → Option Y2) (kO : Nat → St → Option Y2) : Ex → St → Option Y2 := (blockK 2 (seqK ((A_zz68).shape 25) (run (A_zz68) N (codeAt Try.f102 [1, 1, 1, 0, 1, 0, 0, 1, 1, 0, 0, 1, 1, 1])) (blockK 1 (seqK ((A_zz68).shape 27) (run (A_zz68) N (codeAt Try.f102 [1, 1, 1, 0, 1, 0, 0, 1, 1, 1])) (iterK ((A_zz68).shape 8) (run (A_zz68) N (codeAt Try.f102 [1, 1, 1, 0, 1, 0, 0])) m (zz68_E4 kX kO))))))
noncomputable abbrev zz68_k8 (N : Nat) (m : Nat) (kX : St → Option Y2) (kO : Nat → St → Option Y2) : St → Option Y2 := fun st' => run (A_zz68) N (codeAt Try.f102 [1, 1, 1, 0, 1, 0, 0, 1, 1, 0, 0, 1, 1, 1]) st' (blockK 1 (seqK ((A_zz68).shape 27) (run (A_zz68) N (codeAt Try.f102 [1, 1, 1, 0, 1, 0, 0, 1, 1, 1])) (iterK ((A_zz68).shape 8) (run (A_zz68) N (codeAt Try.f102 [1, 1, 1, 0, 1, 0, 0])) m (zz68_E4 kX kO))))
theorem zz68_after8 (N : Nat) (m : Nat) (kX : St → Option Y2) (kO : Nat → St → Option Y2) (l0 : Y1) (not3 : Y4) (table4 : Y3) (row6 : Y4) (t15 : Int) (t16 : Int) : zz68_X8 (zz68_k8 N m kX kO) l0 not3 table4 row6 t15 t16 = zz68_a8 (zz68_R4 N m (zz68_E4 kX kO)) l0 not3 table4 row6 t15 t16 := by kernel_rfl
theorem zz68_in8 (N : Nat) (m : Nat) (kX : St → Option Y2) (kO : Nat → St → Option Y2) (recF : Y1 → Y4 → Y3 → Int → Int → Option Y2) (hrec : zz68_R4 N m (zz68_E4 kX kO) = recF) (l0 : Y1) (not3 : Y4) (table4 : Y3) (x5 : Int) (row6 : Y4) (t15 : Int) (t16 : Int) (t24 : Int) (t25 : Int) : zz68_R8 N N (zz68_K8 N m kX kO) l0 not3 table4 x5 row6 t15 t16 t24 t25 = zz68_F8 N recF (zz68_X4 kX) l0 not3 table4 x5 row6 t15 t16 t24 t25 :=
  have h : zz68_X8 (zz68_k8 N m kX kO) = (zz68_a8 recF) := (funext fun l0 => (funext fun not3 => (funext fun table4 => (funext fun row6 => (funext fun t15 => (funext fun t16 => (zz68_after8 N m kX kO l0 not3 table4 row6 t15 t16).trans (by rw [hrec])))))))
  ((iter_ex (fun st => by kernel_rfl) (fun st => by kernel_rfl)).trans (zz68_iter8 N (zz68_k8 N m kX kO) (fun j st => (zz68_K8 N m kX kO) (.exit j) st) N l0 not3 table4 x5 row6 t15 t16 t24 t25)).trans (congrArg (fun k => zz68_l8 N k N l0 not3 table4 x5 row6 t15 t16 t24 t25) h)
theorem zz68_step4 (N : Nat) (m : Nat) (kX : St → Option Y2) (kO : Nat → St → Option Y2) (l0 : Y1) (not3 : Y4) (table4 : Y3) (t15 : Int) (t16 : Int) : zz68_R4 N (m + 1) (zz68_E4 kX kO) l0 not3 table4 t15 t16 = zz68_b4 (zz68_R8 N N (zz68_K8 N m kX kO)) (zz68_X4 kX) l0 not3 table4 t15 t16 := by kernel_rfl
theorem zz68_iter4 (N : Nat) (kX : St → Option Y2) (kO : Nat → St → Option Y2) : ∀ (n : Nat) (l0 : Y1) (not3 : Y4) (table4 : Y3) (t15 : Int) (t16 : Int), zz68_R4 N n (zz68_E4 kX kO) l0 not3 table4 t15 t16 = zz68_l4 N (zz68_X4 kX) n l0 not3 table4 t15 t16
  | 0, _, _, _, _, _ => rfl
  | m + 1, l0, not3, table4, t15, t16 => by
    have hrec : zz68_R4 N m (zz68_E4 kX kO) = (zz68_l4 N (zz68_X4 kX) m) := (funext fun l0 => (funext fun not3 => (funext fun table4 => (funext fun t15 => (funext fun t16 => zz68_iter4 N kX kO m l0 not3 table4 t15 t16)))))
    refine (zz68_step4 N m kX kO l0 not3 table4 t15 t16).trans ?_
    rw [(funext fun l0 => (funext fun not3 => (funext fun table4 => (funext fun x5 => (funext fun row6 => (funext fun t15 => (funext fun t16 => (funext fun t24 => (funext fun t25 => zz68_in8 N m kX kO (zz68_l4 N (zz68_X4 kX) m) hrec l0 not3 table4 x5 row6 t15 t16 t24 t25)))))))))]
    rfl
noncomputable abbrev zz68_K4 (N : Nat) : Ex → St → Option Y2 := (blockK 0 (seqK ((A_zz68).shape 29) (run (A_zz68) N (codeAt Try.f102 [1, 1, 1, 1])) zz68_z))
noncomputable abbrev zz68_k4 (N : Nat) : St → Option Y2 := fun st' => run (A_zz68) N (codeAt Try.f102 [1, 1, 1, 1]) st' zz68_z
theorem zz68_after4 (N : Nat) (table4 : Y3) : zz68_X4 (zz68_k4 N) table4 = zz68_a4 table4 := by kernel_rfl
theorem zz68_in4 (N : Nat) (l0 : Y1) (not3 : Y4) (table4 : Y3) (t15 : Int) (t16 : Int) : zz68_R4 N N (zz68_K4 N) l0 not3 table4 t15 t16 = zz68_F4 N l0 not3 table4 t15 t16 :=
  have h : zz68_X4 (zz68_k4 N) = (zz68_a4) := (funext fun table4 => zz68_after4 N table4)
  ((iter_ex (fun st => by kernel_rfl) (fun st => by kernel_rfl)).trans (zz68_iter4 N (zz68_k4 N) (fun j st => (zz68_K4 N) (.exit j) st) N l0 not3 table4 t15 t16)).trans (congrArg (fun k => zz68_l4 N k N l0 not3 table4 t15 t16) h)
theorem run0_zz68 (N : Nat) (x : (S_zz68).a.den) : runF (A_zz68) N Try.f102 S_zz68 x = (zz68_s (zz68_R4 N N (zz68_K4 N)) x.1) := by kernel_rfl
theorem run_zz68 (N : Nat) (x : (S_zz68).a.den) : runF (A_zz68) N Try.f102 S_zz68 x = zz68 N x.1 := by
  refine (run0_zz68 N x).trans ?_
  rw [(funext fun l0 => (funext fun not3 => (funext fun table4 => (funext fun t15 => (funext fun t16 => zz68_in4 N l0 not3 table4 t15 t16)))))]
  rfl
theorem fn_zz68 : FnOk Try.prog 102 := ⟨_, Try.func102, by kernel_rfl, by kernel_rfl⟩
theorem good_zz68 : Gx.Good Try.prog 102 S_zz68 := good_of_run Try.func102 (of_decide_eq_true (by kernel_rfl)) fun x r h => ⟨A_zz68, big, mkCfg_ok tabOk, mkCfg_sigs (show SigsOk Try.prog [(125, S_zz67)] from ⟨⟨fn_zz67, good_zz67⟩, trivial⟩), (run_zz68 big x).trans h⟩

/-! zz69 -/
def zz69_b3 (rec : Y6 → Y6 → Y3 → Int → Int → Option (Y6 × Unit)) (k : Y6 → Y6 → Option (Y6 × Unit)) (t2 : Y6) (f3 : Y6) (t7 : Y3) (t8 : Int) (t9 : Int) : Option (Y6 × Unit) :=
  cond (decide (t9 < t8))
  ((atI t7 t9).bind fun xq1 =>
  (appI f3.2.1 xq1).bind fun xq2 =>
  rec t2 ((f3.1, ((), f3.2.2)).1, (xq2, ((f3.1, ((), f3.2.2)).2).2)) t7 t8 (IntKind.i64.wrap (t9 + (1 : Int))))
  (k t2 f3)
def zz69_a3 (t2 : Y6) (f3 : Y6) : Option (Y6 × Unit) :=
  some (f3, (()))
def zz69_s (L3 : Y6 → Y6 → Y3 → Int → Int → Option (Y6 × Unit)) (table_0 : Y3) : Option (Y6 × Unit) :=
  L3 ((0 : Int), (([] : Y4), ())) ((2 : Int), (([] : Y4), ())) table_0 (table_0.length : Int) (0 : Int)
def zz69_l3 (N : Nat) (k : Y6 → Y6 → Option (Y6 × Unit)) : Nat → Y6 → Y6 → Y3 → Int → Int → Option (Y6 × Unit)
  | 0, _, _, _, _, _ => none
  | m + 1, t2, f3, t7, t8, t9 => zz69_b3 (zz69_l3 N k m) k t2 f3 t7 t8 t9
def zz69_F3 (N : Nat) (t2 : Y6) (f3 : Y6) (t7 : Y3) (t8 : Int) (t9 : Int) : Option (Y6 × Unit) := zz69_l3 N (zz69_a3) N t2 f3 t7 t8 t9
def zz69 (N : Nat) (table_0 : Y3) : Option (Y6 × Unit) := zz69_s (zz69_F3 N) table_0
def S_zz69 : Sig := { a := (.pair (.sl (.sl I)) .unit), md := [0], mf := [], m := .unit, r := (.pair I (.pair (.sl I) .unit)), rf := (.p .i (.p (.o .i) .i)), f := fun x => zz69 big x.1 }
def A_zz69 : Cfg := mkCfg tab [] [(6, [.drop, .drop, .as (.ptr (.pair I (.pair (.sl I) .unit))) (.o (.p .i (.p (.o .i) .i))), .as (.ptr (.pair I (.pair (.sl I) .unit))) (.o (.p .i (.p (.o .i) .i))), .drop, .drop, .drop, .as (.sl (.sl I)) .i, .as I .i, .as I .i]), (15, [.drop, .drop, .as (.ptr (.pair I (.pair (.sl I) .unit))) (.o (.p .i (.p (.o .i) .i))), .as (.ptr (.pair I (.pair (.sl I) .unit))) (.o (.p .i (.p (.o .i) .i)))])]
noncomputable def zz69_R3 (N n : Nat) (K : Ex → St → Option (Y6 × Unit)) (t2 : Y6) (f3 : Y6) (t7 : Y3) (t8 : Int) (t9 : Int) : Option (Y6 × Unit) := iter ((A_zz69).shape 6) (run (A_zz69) N (codeAt Try.f101 [1, 1, 0, 1, 0, 0])) n ([.u, .u, .val (.ptr (.pair I (.pair (.sl I) .unit))) (.o (.p .i (.p (.o .i) .i))) t2, .val (.ptr (.pair I (.pair (.sl I) .unit))) (.o (.p .i (.p (.o .i) .i))) f3, .u, .u, .u, .val (.sl (.sl I)) .i t7, .val I .i t8, .val I .i t9] ++ List.replicate 10 .u) K
noncomputable abbrev zz69_z : Ex → St → Option (Y6 × Unit) := finish (A_zz69) S_zz69 Try.f101.results.toList
noncomputable abbrev zz69_X3 (kX : St → Option (Y6 × Unit)) : Y6 → Y6 → Option (Y6 × Unit) := fun (t2 : Y6) (f3 : Y6) => kX ([.u, .u, .val (.ptr (.pair I (.pair (.sl I) .unit))) (.o (.p .i (.p (.o .i) .i))) t2, .val (.ptr (.pair I (.pair (.sl I) .unit))) (.o (.p .i (.p (.o .i) .i))) f3] ++ List.replicate 16 .u)
noncomputable abbrev zz69_E3 (kX : St → Option (Y6 × Unit)) (kO : Nat → St → Option (Y6 × Unit)) : Ex → St → Option (Y6 × Unit) := exK zz69_z 0 ((A_zz69).shape 15) kX kO
theorem zz69_step3 (N : Nat) (m : Nat) (kX : St → Option (Y6 × Unit)) (kO : Nat → St → Option (Y6 × Unit)) (t2 : Y6) (f3 : Y6) (t7 : Y3) (t8 : Int) (t9 : Int) : zz69_R3 N (m + 1) (zz69_E3 kX kO) t2 f3 t7 t8 t9 = zz69_b3 (zz69_R3 N m (zz69_E3 kX kO)) (zz69_X3 kX) t2 f3 t7 t8 t9 := by kernel_rfl
theorem zz69_iter3 (N : Nat) (kX : St → Option (Y6 × Unit)) (kO : Nat → St → Option (Y6 × Unit)) : ∀ (n : Nat) (t2 : Y6) (f3 : Y6) (t7 : Y3) (t8 : Int) (t9 : Int), zz69_R3 N n (zz69_E3 kX kO) t2 f3 t7 t8 t9 = zz69_l3 N (zz69_X3 kX) n t2 f3 t7 t8 t9
  | 0, _, _, _, _, _ => rfl
  | m + 1, t2, f3, t7, t8, t9 => by
    have hrec : zz69_R3 N m (zz69_E3 kX kO) = (zz69_l3 N (zz69_X3 kX) m) := (funext fun t2 => (funext fun f3 => (funext fun t7 => (funext fun t8 => (funext fun t9 => zz69_iter3 N kX kO m t2 f3 t7 t8 t9)))))
    refine (zz69_step3 N m kX kO t2 f3 t7 t8 t9).trans ?_
    rw [hrec]
    rfl
noncomputable abbrev zz69_K3 (N : Nat) : Ex → St → Option (Y6 × Unit) := (blockK 0 (seqK ((A_zz69).shape 15) (run (A_zz69) N (codeAt Try.f101 [1, 1, 1])) zz69_z))
noncomputable abbrev zz69_k3 (N : Nat) : St → Option (Y6 × Unit) := fun st' => run (A_zz69) N (codeAt Try.f101 [1, 1, 1]) st' zz69_z
theorem zz69_after3 (N : Nat) (t2 : Y6) (f3 : Y6) : zz69_X3 (zz69_k3 N) t2 f3 = zz69_a3 t2 f3 := by kernel_rfl
theorem zz69_in3 (N : Nat) (t2 : Y6) (f3 : Y6) (t7 : Y3) (t8 : Int) (t9 : Int) : zz69_R3 N N (zz69_K3 N) t2 f3 t7 t8 t9 = zz69_F3 N t2 f3 t7 t8 t9 :=
  have h : zz69_X3 (zz69_k3 N) = (zz69_a3) := (funext fun t2 => (funext fun f3 => zz69_after3 N t2 f3))
  ((iter_ex (fun st => by kernel_rfl) (fun st => by kernel_rfl)).trans (zz69_iter3 N (zz69_k3 N) (fun j st => (zz69_K3 N) (.exit j) st) N t2 f3 t7 t8 t9)).trans (congrArg (fun k => zz69_l3 N k N t2 f3 t7 t8 t9) h)
theorem run0_zz69 (N : Nat) (x : (S_zz69).a.den) : runF (A_zz69) N Try.f101 S_zz69 x = (zz69_s (zz69_R3 N N (zz69_K3 N)) x.1) := by kernel_rfl
theorem run_zz69 (N : Nat) (x : (S_zz69).a.den) : runF (A_zz69) N Try.f101 S_zz69 x = zz69 N x.1 := by
  refine (run0_zz69 N x).trans ?_
  rw [(funext fun t2 => (funext fun f3 => (funext fun t7 => (funext fun t8 => (funext fun t9 => zz69_in3 N t2 f3 t7 t8 t9)))))]
  rfl
theorem fn_zz69 : FnOk Try.prog 101 := ⟨_, Try.func101, by kernel_rfl, by kernel_rfl⟩
theorem good_zz69 : Gx.Good Try.prog 101 S_zz69 := good_of_run Try.func101 (of_decide_eq_true (by kernel_rfl)) fun x r h => ⟨A_zz69, big, mkCfg_ok tabOk, mkCfg_sigs (show SigsOk Try.prog [] from trivial), (run_zz69 big x).trans h⟩

/-! zz70 -/
def zz70_s (l_0 : Y1) : Option (Y7 × Unit) :=
  (l_0).bind fun xq1 =>
  (zz68 big l_0).bind fun rq2 =>
  (zz69 big rq2.1).bind fun rq3 =>
  (l_0).bind fun xq4 =>
  (zz69 big xq4.2.1).bind fun rq5 =>
  some (((xq1.1.length : Int), ([rq3.1, rq5.1], ())), (()))
def zz70 (l_0 : Y1) : Option (Y7 × Unit) := zz70_s l_0
def S_zz70 : Sig := { a := (.pair (.opt (.pair (.sl (.sl .bool)) (.pair (.sl (.sl I)) (.pair (.sl (.sl I)) .unit)))) .unit), md := [0], mf := [], m := .unit, r := (.pair I (.pair (.sl (.pair I (.pair (.sl I) .unit))) .unit)), rf := (.p .i (.p (.o (.p .i (.p (.o .i) .i))) .i)), f := fun x => zz70 x.1 }
def A_zz70 : Cfg := mkCfg tab [(102, S_zz68), (101, S_zz69)] []
theorem run_zz70 (N : Nat) (x : (S_zz70).a.den) : runF (A_zz70) N Try.f71 S_zz70 x = zz70 x.1 := by kernel_rfl
theorem fn_zz70 : FnOk Try.prog 71 := ⟨_, Try.func71, by kernel_rfl, by kernel_rfl⟩
theorem good_zz70 : Gx.Good Try.prog 71 S_zz70 := good_of_run Try.func71 (of_decide_eq_true (by kernel_rfl)) fun x r h => ⟨A_zz70, big, mkCfg_ok tabOk, mkCfg_sigs (show SigsOk Try.prog [(102, S_zz68), (101, S_zz69)] from ⟨⟨fn_zz68, good_zz68⟩, ⟨fn_zz69, good_zz69⟩, trivial⟩), (run_zz70 big x).trans h⟩

/-! zz71 -/
def zz71_b4 (rec : Y7 → (List Y6) → Int → Int → Option (Bool × Unit)) (k : Option (Bool × Unit)) (b3 : Y7) (t22 : (List Y6)) (t23 : Int) (t24 : Int) : Option (Bool × Unit) :=
  cond (decide (t24 < t23))
  ((atI t22 t24).bind fun xq1 =>
  (atI b3.2.1 t24).bind fun xq2 =>
  cond (decide (xq1.1 ≠ xq2.1))
  (some (false, (())))
  ((atI b3.2.1 t24).bind fun xq3 =>
  (zz41 big xq1.2.1 xq3.2.1).bind fun rq4 =>
  cond (!rq4.1)
  (some (false, (())))
  (rec b3 t22 t23 (IntKind.i64.wrap (t24 + (1 : Int))))))
  (k)
def zz71_a4 : Option (Bool × Unit) :=
  some (true, (()))
def zz71_s (L4 : Y7 → (List Y6) → Int → Int → Option (Bool × Unit)) (a_0 : Y7) (b_1 : Y7) : Option (Bool × Unit) :=
  cond (decide (a_0.1 ≠ b_1.1))
  (some (false, (())))
  (cond (decide ((a_0.2.1.length : Int) ≠ (b_1.2.1.length : Int)))
  (some (false, (())))
  (L4 b_1 a_0.2.1 (a_0.2.1.length : Int) (0 : Int)))
def zz71_l4 (N : Nat) (k : Option (Bool × Unit)) : Nat → Y7 → (List Y6) → Int → Int → Option (Bool × Unit)
  | 0, _, _, _, _ => none
  | m + 1, b3, t22, t23, t24 => zz71_b4 (zz71_l4 N k m) k b3 t22 t23 t24
def zz71_F4 (N : Nat) (b3 : Y7) (t22 : (List Y6)) (t23 : Int) (t24 : Int) : Option (Bool × Unit) := zz71_l4 N (zz71_a4) N b3 t22 t23 t24
def zz71 (N : Nat) (a_0 : Y7) (b_1 : Y7) : Option (Bool × Unit) := zz71_s (zz71_F4 N) a_0 b_1
def S_zz71 : Sig := { a := (.pair (.pair I (.pair (.sl (.pair I (.pair (.sl I) .unit))) .unit)) (.pair (.pair I (.pair (.sl (.pair I (.pair (.sl I) .unit))) .unit)) .unit)), md := [0, 0], mf := [], m := .unit, r := .bool, rf := .i, f := fun x => zz71 big x.1 x.2.1 }
def A_zz71 : Cfg := mkCfg tab [(65, S_zz41)] [(8, [.drop, .drop, .drop, .as (.ptr (.pair I (.pair (.sl (.pair I (.pair (.sl I) .unit))) .unit))) (.o .i), .drop, .drop, .drop, .drop, .drop, .drop, .drop, .drop, .drop, .drop, .drop, .drop, .drop, .drop, .drop, .drop, .drop, .drop, .as (.sl (.pair I (.pair (.sl I) .unit))) .i, .as I .i, .as I .i]), (19, [])]
noncomputable def zz71_R4 (N n : Nat) (K : Ex → St → Option (Bool × Unit)) (b3 : Y7) (t22 : (List Y6)) (t23 : Int) (t24 : Int) : Option (Bool × Unit) := iter ((A_zz71).shape 8) (run (A_zz71) N (codeAt Try.f70 [1, 1, 0, 1, 0, 0])) n ([.u, .u, .u, .val (.ptr (.pair I (.pair (.sl (.pair I (.pair (.sl I) .unit))) .unit))) (.o .i) b3, .u, .u, .u, .u, .u, .u, .u, .u, .u, .u, .u, .u, .u, .u, .u, .u, .u, .u, .val (.sl (.pair I (.pair (.sl I) .unit))) .i t22, .val I .i t23, .val I .i t24] ++ List.replicate 26 .u) K
noncomputable abbrev zz71_z : Ex → St → Option (Bool × Unit) := finish (A_zz71) S_zz71 Try.f70.results.toList
noncomputable abbrev zz71_X4 (kX : St → Option (Bool × Unit)) : Option (Bool × Unit) := kX ([] ++ List.replicate 51 .u)
noncomputable abbrev zz71_E4 (kX : St → Option (Bool × Unit)) (kO : Nat → St → Option (Bool × Unit)) : Ex → St → Option (Bool × Unit) := exK zz71_z 0 ((A_zz71).shape 19) kX kO
theorem zz71_step4 (N : Nat) (m : Nat) (kX : St → Option (Bool × Unit)) (kO : Nat → St → Option (Bool × Unit)) (b3 : Y7) (t22 : (List Y6)) (t23 : Int) (t24 : Int) : zz71_R4 N (m + 1) (zz71_E4 kX kO) b3 t22 t23 t24 = zz71_b4 (zz71_R4 N m (zz71_E4 kX kO)) (zz71_X4 kX) b3 t22 t23 t24 := by kernel_rfl
theorem zz71_iter4 (N : Nat) (kX : St → Option (Bool × Unit)) (kO : Nat → St → Option (Bool × Unit)) : ∀ (n : Nat) (b3 : Y7) (t22 : (List Y6)) (t23 : Int) (t24 : Int), zz71_R4 N n (zz71_E4 kX kO) b3 t22 t23 t24 = zz71_l4 N (zz71_X4 kX) n b3 t22 t23 t24
  | 0, _, _, _, _ => rfl
  | m + 1, b3, t22, t23, t24 => by
    have hrec : zz71_R4 N m (zz71_E4 kX kO) = (zz71_l4 N (zz71_X4 kX) m) := (funext fun b3 => (funext fun t22 => (funext fun t23 => (funext fun t24 => zz71_iter4 N kX kO m b3 t22 t23 t24))))
    refine (zz71_step4 N m kX kO b3 t22 t23 t24).trans ?_
    rw [hrec]
    rfl
noncomputable abbrev zz71_K4 (N : Nat) : Ex → St → Option (Bool × Unit) := (blockK 0 (seqK ((A_zz71).shape 19) (run (A_zz71) N (codeAt Try.f70 [1, 1, 1])) zz71_z))
noncomputable abbrev zz71_k4 (N : Nat) : St → Option (Bool × Unit) := fun st' => run (A_zz71) N (codeAt Try.f70 [1, 1, 1]) st' zz71_z
theorem zz71_after4 (N : Nat) : zz71_X4 (zz71_k4 N) = zz71_a4 := by kernel_rfl
theorem zz71_in4 (N : Nat) (b3 : Y7) (t22 : (List Y6)) (t23 : Int) (t24 : Int) : zz71_R4 N N (zz71_K4 N) b3 t22 t23 t24 = zz71_F4 N b3 t22 t23 t24 :=
  have h : zz71_X4 (zz71_k4 N) = (zz71_a4) := zz71_after4 N
  ((iter_ex (fun st => by kernel_rfl) (fun st => by kernel_rfl)).trans (zz71_iter4 N (zz71_k4 N) (fun j st => (zz71_K4 N) (.exit j) st) N b3 t22 t23 t24)).trans (congrArg (fun k => zz71_l4 N k N b3 t22 t23 t24) h)
theorem run0_zz71 (N : Nat) (x : (S_zz71).a.den) : runF (A_zz71) N Try.f70 S_zz71 x = (zz71_s (zz71_R4 N N (zz71_K4 N)) x.1 x.2.1) := by kernel_rfl
theorem run_zz71 (N : Nat) (x : (S_zz71).a.den) : runF (A_zz71) N Try.f70 S_zz71 x = zz71 N x.1 x.2.1 := by
  refine (run0_zz71 N x).trans ?_
  rw [(funext fun b3 => (funext fun t22 => (funext fun t23 => (funext fun t24 => zz71_in4 N b3 t22 t23 t24))))]
  rfl
theorem fn_zz71 : FnOk Try.prog 70 := ⟨_, Try.func70, by kernel_rfl, by kernel_rfl⟩
theorem good_zz71 : Gx.Good Try.prog 70 S_zz71 := good_of_run Try.func70 (of_decide_eq_true (by kernel_rfl)) fun x r h => ⟨A_zz71, big, mkCfg_ok tabOk, mkCfg_sigs (show SigsOk Try.prog [(65, S_zz41)] from ⟨⟨fn_zz41, good_zz41⟩, trivial⟩), (run_zz71 big x).trans h⟩

/-! zz72 -/
def zz72_s (a_0 : Y7) : Option ((Y2 × (Bool × Unit)) × Unit) :=
  (zz39 big a_0).bind fun rq1 =>
  cond (!rq1.1)
  (some (((([] : Y3), ()), false, ()), (())))
  ((zz40 big a_0).bind fun rq2 =>
  (zz41 big rq2.1 [(2 : Int), (2 : Int)]).bind fun rq3 =>
  cond (!rq3.1)
  (some (((([] : Y3), ()), false, ()), (())))
  ((atI a_0.2.1 (1 : Int)).bind fun xq4 =>
  (zz43 big a_0.1 xq4.2.1).bind fun rq5 =>
  (zz44 big rq5.1).bind fun rq6 =>
  (zz66 rq6.1).bind fun rq7 =>
  cond (!((((), rq7.1.2).2).1))
  (some (((([] : Y3), ()), false, ()), (())))
  ((zz70 rq7.1.1).bind fun rq8 =>
  (zz71 big rq8.1 a_0).bind fun rq9 =>
  cond (!rq9.1)
  (some (((([] : Y3), ()), false, ()), (())))
  (some ((rq6.1, true, ()), (()))))))
def zz72 (a_0 : Y7) : Option ((Y2 × (Bool × Unit)) × Unit) := zz72_s a_0
def S_zz72 : Sig := { a := (.pair (.pair I (.pair (.sl (.pair I (.pair (.sl I) .unit))) .unit)) .unit), md := [0], mf := [], m := .unit, r := (.tup (.pair (.pair (.sl (.sl I)) .unit) (.pair .bool .unit))), rf := (.p (.p (.o (.o .i)) .i) .i), f := fun x => zz72 x.1 }
def A_zz72 : Cfg := mkCfg tab [(64, S_zz39), (66, S_zz40), (65, S_zz41), (67, S_zz43), (68, S_zz44), (69, S_zz66), (71, S_zz70), (70, S_zz71)] []
theorem run_zz72 (N : Nat) (x : (S_zz72).a.den) : runF (A_zz72) N Try.f30 S_zz72 x = zz72 x.1 := by kernel_rfl
theorem fn_zz72 : FnOk Try.prog 30 := ⟨_, Try.func30, by kernel_rfl, by kernel_rfl⟩
theorem good_zz72 : Gx.Good Try.prog 30 S_zz72 := good_of_run Try.func30 (of_decide_eq_true (by kernel_rfl)) fun x r h => ⟨A_zz72, big, mkCfg_ok tabOk, mkCfg_sigs (show SigsOk Try.prog [(64, S_zz39), (66, S_zz40), (65, S_zz41), (67, S_zz43), (68, S_zz44), (69, S_zz66), (71, S_zz70), (70, S_zz71)] from ⟨⟨fn_zz39, good_zz39⟩, ⟨fn_zz40, good_zz40⟩, ⟨fn_zz41, good_zz41⟩, ⟨fn_zz43, good_zz43⟩, ⟨fn_zz44, good_zz44⟩, ⟨fn_zz66, good_zz66⟩, ⟨fn_zz70, good_zz70⟩, ⟨fn_zz71, good_zz71⟩, trivial⟩), (run_zz72 big x).trans h⟩

/-! zz73 -/
def zz73_b4 (rec : Y4 → Y4 → Int → Option (Bool × Unit)) (k : Option (Bool × Unit)) (a0 : Y4) (b1 : Y4) (i5 : Int) : Option (Bool × Unit) :=
  cond (decide (i5 < (a0.length : Int)))
  ((atI a0 i5).bind fun xq1 =>
  (atI b1 i5).bind fun xq2 =>
  cond (decide (xq1 ≠ xq2))
  (some (false, (())))
  (rec a0 b1 (IntKind.i64.wrap (i5 + (1 : Int)))))
  (k)
def zz73_a4 : Option (Bool × Unit) :=
  some (true, (()))
def zz73_s (L4 : Y4 → Y4 → Int → Option (Bool × Unit)) (a_0 : Y4) (b_1 : Y4) : Option (Bool × Unit) :=
  cond (decide ((a_0.length : Int) ≠ (b_1.length : Int)))
  (some (false, (())))
  (L4 a_0 b_1 (0 : Int))
def zz73_l4 (N : Nat) (k : Option (Bool × Unit)) : Nat → Y4 → Y4 → Int → Option (Bool × Unit)
  | 0, _, _, _ => none
  | m + 1, a0, b1, i5 => zz73_b4 (zz73_l4 N k m) k a0 b1 i5
def zz73_F4 (N : Nat) (a0 : Y4) (b1 : Y4) (i5 : Int) : Option (Bool × Unit) := zz73_l4 N (zz73_a4) N a0 b1 i5
def zz73 (N : Nat) (a_0 : Y4) (b_1 : Y4) : Option (Bool × Unit) := zz73_s (zz73_F4 N) a_0 b_1
def S_zz73 : Sig := { a := (.pair (.sl I) (.pair (.sl I) .unit)), md := [0, 0], mf := [], m := .unit, r := .bool, rf := .i, f := fun x => zz73 big x.1 x.2.1 }
def A_zz73 : Cfg := mkCfg tab [] [(8, [.as (.sl I) .i, .as (.sl I) .i, .drop, .drop, .drop, .as I .i]), (17, [])]
noncomputable def zz73_R4 (N n : Nat) (K : Ex → St → Option (Bool × Unit)) (a0 : Y4) (b1 : Y4) (i5 : Int) : Option (Bool × Unit) := iter ((A_zz73).shape 8) (run (A_zz73) N (codeAt Try.f11 [1, 1, 0, 1, 0, 0])) n ([.val (.sl I) .i a0, .val (.sl I) .i b1, .u, .u, .u, .val I .i i5] ++ List.replicate 20 .u) K
noncomputable abbrev zz73_z : Ex → St → Option (Bool × Unit) := finish (A_zz73) S_zz73 Try.f11.results.toList
noncomputable abbrev zz73_X4 (kX : St → Option (Bool × Unit)) : Option (Bool × Unit) := kX ([] ++ List.replicate 26 .u)
noncomputable abbrev zz73_E4 (kX : St → Option (Bool × Unit)) (kO : Nat → St → Option (Bool × Unit)) : Ex → St → Option (Bool × Unit) := exK zz73_z 0 ((A_zz73).shape 17) kX kO
theorem zz73_step4 (N : Nat) (m : Nat) (kX : St → Option (Bool × Unit)) (kO : Nat → St → Option (Bool × Unit)) (a0 : Y4) (b1 : Y4) (i5 : Int) : zz73_R4 N (m + 1) (zz73_E4 kX kO) a0 b1 i5 = zz73_b4 (zz73_R4 N m (zz73_E4 kX kO)) (zz73_X4 kX) a0 b1 i5 := by kernel_rfl
theorem zz73_iter4 (N : Nat) (kX : St → Option (Bool × Unit)) (kO : Nat → St → Option (Bool × Unit)) : ∀ (n : Nat) (a0 : Y4) (b1 : Y4) (i5 : Int), zz73_R4 N n (zz73_E4 kX kO) a0 b1 i5 = zz73_l4 N (zz73_X4 kX) n a0 b1 i5
  | 0, _, _, _ => rfl
  | m + 1, a0, b1, i5 => by
    have hrec : zz73_R4 N m (zz73_E4 kX kO) = (zz73_l4 N (zz73_X4 kX) m) := (funext fun a0 => (funext fun b1 => (funext fun i5 => zz73_iter4 N kX kO m a0 b1 i5)))
    refine (zz73_step4 N m kX kO a0 b1 i5).trans ?_
    rw [hrec]
    rfl
noncomputable abbrev zz73_K4 (N : Nat) : Ex → St → Option (Bool × Unit) := (blockK 0 (seqK ((A_zz73).shape 17) (run (A_zz73) N (codeAt Try.f11 [1, 1, 1])) zz73_z))
noncomputable abbrev zz73_k4 (N : Nat) : St → Option (Bool × Unit) := fun st' => run (A_zz73) N (codeAt Try.f11 [1, 1, 1]) st' zz73_z
theorem zz73_after4 (N : Nat) : zz73_X4 (zz73_k4 N) = zz73_a4 := by kernel_rfl
theorem zz73_in4 (N : Nat) (a0 : Y4) (b1 : Y4) (i5 : Int) : zz73_R4 N N (zz73_K4 N) a0 b1 i5 = zz73_F4 N a0 b1 i5 :=
  have h : zz73_X4 (zz73_k4 N) = (zz73_a4) := zz73_after4 N
  ((iter_ex (fun st => by kernel_rfl) (fun st => by kernel_rfl)).trans (zz73_iter4 N (zz73_k4 N) (fun j st => (zz73_K4 N) (.exit j) st) N a0 b1 i5)).trans (congrArg (fun k => zz73_l4 N k N a0 b1 i5) h)
theorem run0_zz73 (N : Nat) (x : (S_zz73).a.den) : runF (A_zz73) N Try.f11 S_zz73 x = (zz73_s (zz73_R4 N N (zz73_K4 N)) x.1 x.2.1) := by kernel_rfl
theorem run_zz73 (N : Nat) (x : (S_zz73).a.den) : runF (A_zz73) N Try.f11 S_zz73 x = zz73 N x.1 x.2.1 := by
  refine (run0_zz73 N x).trans ?_
  rw [(funext fun a0 => (funext fun b1 => (funext fun i5 => zz73_in4 N a0 b1 i5)))]
  rfl
theorem fn_zz73 : FnOk Try.prog 11 := ⟨_, Try.func11, by kernel_rfl, by kernel_rfl⟩
theorem good_zz73 : Gx.Good Try.prog 11 S_zz73 := good_of_run Try.func11 (of_decide_eq_true (by kernel_rfl)) fun x r h => ⟨A_zz73, big, mkCfg_ok tabOk, mkCfg_sigs (show SigsOk Try.prog [] from trivial), (run_zz73 big x).trans h⟩

/-! zz74 -/
def zz74_b4 (rec : Y3 → Y3 → Int → Option (Bool × Unit)) (k : Option (Bool × Unit)) (a0 : Y3) (b1 : Y3) (i5 : Int) : Option (Bool × Unit) :=
  cond (decide (i5 < (a0.length : Int)))
  ((atI a0 i5).bind fun xq1 =>
  (atI b1 i5).bind fun xq2 =>
  (zz73 big xq1 xq2).bind fun rq3 =>
  cond (!rq3.1)
  (some (false, (())))
  (rec a0 b1 (IntKind.i64.wrap (i5 + (1 : Int)))))
  (k)
def zz74_a4 : Option (Bool × Unit) :=
  some (true, (()))
def zz74_s (L4 : Y3 → Y3 → Int → Option (Bool × Unit)) (a_0 : Y3) (b_1 : Y3) : Option (Bool × Unit) :=
  cond (decide ((a_0.length : Int) ≠ (b_1.length : Int)))
  (some (false, (())))
  (L4 a_0 b_1 (0 : Int))
def zz74_l4 (N : Nat) (k : Option (Bool × Unit)) : Nat → Y3 → Y3 → Int → Option (Bool × Unit)
  | 0, _, _, _ => none
  | m + 1, a0, b1, i5 => zz74_b4 (zz74_l4 N k m) k a0 b1 i5
def zz74_F4 (N : Nat) (a0 : Y3) (b1 : Y3) (i5 : Int) : Option (Bool × Unit) := zz74_l4 N (zz74_a4) N a0 b1 i5
def zz74 (N : Nat) (a_0 : Y3) (b_1 : Y3) : Option (Bool × Unit) := zz74_s (zz74_F4 N) a_0 b_1
def S_zz74 : Sig := { a := (.pair (.sl (.sl I)) (.pair (.sl (.sl I)) .unit)), md := [0, 0], mf := [], m := .unit, r := .bool, rf := .i, f := fun x => zz74 big x.1 x.2.1 }
def A_zz74 : Cfg := mkCfg tab [(11, S_zz73)] [(8, [.as (.sl (.sl I)) .i, .as (.sl (.sl I)) .i, .drop, .drop, .drop, .as I .i]), (17, [])]
noncomputable def zz74_R4 (N n : Nat) (K : Ex → St → Option (Bool × Unit)) (a0 : Y3) (b1 : Y3) (i5 : Int) : Option (Bool × Unit) := iter ((A_zz74).shape 8) (run (A_zz74) N (codeAt Try.f54 [1, 1, 0, 1, 0, 0])) n ([.val (.sl (.sl I)) .i a0, .val (.sl (.sl I)) .i b1, .u, .u, .u, .val I .i i5] ++ List.replicate 21 .u) K
noncomputable abbrev zz74_z : Ex → St → Option (Bool × Unit) := finish (A_zz74) S_zz74 Try.f54.results.toList
noncomputable abbrev zz74_X4 (kX : St → Option (Bool × Unit)) : Option (Bool × Unit) := kX ([] ++ List.replicate 27 .u)
noncomputable abbrev zz74_E4 (kX : St → Option (Bool × Unit)) (kO : Nat → St → Option (Bool × Unit)) : Ex → St → Option (Bool × Unit) := exK zz74_z 0 ((A_zz74).shape 17) kX kO
theorem zz74_step4 (N : Nat) (m : Nat) (kX : St → Option (Bool × Unit)) (kO : Nat → St → Option (Bool × Unit)) (a0 : Y3) (b1 : Y3) (i5 : Int) : zz74_R4 N (m + 1) (zz74_E4 kX kO) a0 b1 i5 = zz74_b4 (zz74_R4 N m (zz74_E4 kX kO)) (zz74_X4 kX) a0 b1 i5 := by kernel_rfl
theorem zz74_iter4 (N : Nat) (kX : St → Option (Bool × Unit)) (kO : Nat → St → Option (Bool × Unit)) : ∀ (n : Nat) (a0 : Y3) (b1 : Y3) (i5 : Int), zz74_R4 N n (zz74_E4 kX kO) a0 b1 i5 = zz74_l4 N (zz74_X4 kX) n a0 b1 i5
  | 0, _, _, _ => rfl
  | m + 1, a0, b1, i5 => by
    have hrec : zz74_R4 N m (zz74_E4 kX kO) = (zz74_l4 N (zz74_X4 kX) m) := (funext fun a0 => (funext fun b1 => (funext fun i5 => zz74_iter4 N kX kO m a0 b1 i5)))
    refine (zz74_step4 N m kX kO a0 b1 i5).trans ?_
    rw [hrec]
    rfl
noncomputable abbrev zz74_K4 (N : Nat) : Ex → St → Option (Bool × Unit) := (blockK 0 (seqK ((A_zz74).shape 17) (run (A_zz74) N (codeAt Try.f54 [1, 1, 1])) zz74_z))
noncomputable abbrev zz74_k4 (N : Nat) : St → Option (Bool × Unit) := fun st' => run (A_zz74) N (codeAt Try.f54 [1, 1, 1]) st' zz74_z
theorem zz74_after4 (N : Nat) : zz74_X4 (zz74_k4 N) = zz74_a4 := by kernel_rfl
theorem zz74_in4 (N : Nat) (a0 : Y3) (b1 : Y3) (i5 : Int) : zz74_R4 N N (zz74_K4 N) a0 b1 i5 = zz74_F4 N a0 b1 i5 :=
  have h : zz74_X4 (zz74_k4 N) = (zz74_a4) := zz74_after4 N
  ((iter_ex (fun st => by kernel_rfl) (fun st => by kernel_rfl)).trans (zz74_iter4 N (zz74_k4 N) (fun j st => (zz74_K4 N) (.exit j) st) N a0 b1 i5)).trans (congrArg (fun k => zz74_l4 N k N a0 b1 i5) h)
theorem run0_zz74 (N : Nat) (x : (S_zz74).a.den) : runF (A_zz74) N Try.f54 S_zz74 x = (zz74_s (zz74_R4 N N (zz74_K4 N)) x.1 x.2.1) := by kernel_rfl
theorem run_zz74 (N : Nat) (x : (S_zz74).a.den) : runF (A_zz74) N Try.f54 S_zz74 x = zz74 N x.1 x.2.1 := by
  refine (run0_zz74 N x).trans ?_
  rw [(funext fun a0 => (funext fun b1 => (funext fun i5 => zz74_in4 N a0 b1 i5)))]
  rfl
theorem fn_zz74 : FnOk Try.prog 54 := ⟨_, Try.func54, by kernel_rfl, by kernel_rfl⟩
theorem good_zz74 : Gx.Good Try.prog 54 S_zz74 := good_of_run Try.func54 (of_decide_eq_true (by kernel_rfl)) fun x r h => ⟨A_zz74, big, mkCfg_ok tabOk, mkCfg_sigs (show SigsOk Try.prog [(11, S_zz73)] from ⟨⟨fn_zz73, good_zz73⟩, trivial⟩), (run_zz74 big x).trans h⟩

/-! zz75 -/
def zz75_s (a_0 : Y2) (b_1 : Y2) : Option (Bool × Unit) :=
  (zz74 big a_0.1 b_1.1).bind fun rq1 =>
  cond (!rq1.1)
  (some (false, (())))
  (some (true, (())))
def zz75 (a_0 : Y2) (b_1 : Y2) : Option (Bool × Unit) := zz75_s a_0 b_1
def S_zz75 : Sig := { a := (.pair (.pair (.sl (.sl I)) .unit) (.pair (.pair (.sl (.sl I)) .unit) .unit)), md := [0, 0], mf := [], m := .unit, r := .bool, rf := .i, f := fun x => zz75 x.1 x.2.1 }
def A_zz75 : Cfg := mkCfg tab [(54, S_zz74)] []
theorem run_zz75 (N : Nat) (x : (S_zz75).a.den) : runF (A_zz75) N Try.f23 S_zz75 x = zz75 x.1 x.2.1 := by kernel_rfl
theorem fn_zz75 : FnOk Try.prog 23 := ⟨_, Try.func23, by kernel_rfl, by kernel_rfl⟩
theorem good_zz75 : Gx.Good Try.prog 23 S_zz75 := good_of_run Try.func23 (of_decide_eq_true (by kernel_rfl)) fun x r h => ⟨A_zz75, big, mkCfg_ok tabOk, mkCfg_sigs (show SigsOk Try.prog [(54, S_zz74)] from ⟨⟨fn_zz74, good_zz74⟩, trivial⟩), (run_zz75 big x).trans h⟩

/-! zz76 -/
def zz76_s (a_0 : Y6) (b_1 : Y6) : Option (Bool × Unit) :=
  cond (decide (a_0.1 ≠ b_1.1))
  (some (false, (())))
  ((zz73 big a_0.2.1 b_1.2.1).bind fun rq1 =>
  cond (!rq1.1)
  (some (false, (())))
  (some (true, (()))))
def zz76 (a_0 : Y6) (b_1 : Y6) : Option (Bool × Unit) := zz76_s a_0 b_1
def S_zz76 : Sig := { a := (.pair (.pair I (.pair (.sl I) .unit)) (.pair (.pair I (.pair (.sl I) .unit)) .unit)), md := [0, 0], mf := [], m := .unit, r := .bool, rf := .i, f := fun x => zz76 x.1 x.2.1 }
def A_zz76 : Cfg := mkCfg tab [(11, S_zz73)] []
theorem run_zz76 (N : Nat) (x : (S_zz76).a.den) : runF (A_zz76) N Try.f103 S_zz76 x = zz76 x.1 x.2.1 := by kernel_rfl
theorem fn_zz76 : FnOk Try.prog 103 := ⟨_, Try.func103, by kernel_rfl, by kernel_rfl⟩
theorem good_zz76 : Gx.Good Try.prog 103 S_zz76 := good_of_run Try.func103 (of_decide_eq_true (by kernel_rfl)) fun x r h => ⟨A_zz76, big, mkCfg_ok tabOk, mkCfg_sigs (show SigsOk Try.prog [(11, S_zz73)] from ⟨⟨fn_zz73, good_zz73⟩, trivial⟩), (run_zz76 big x).trans h⟩

/-! zz77 -/
def zz77_b4 (rec : (List Y6) → (List Y6) → Int → Option (Bool × Unit)) (k : Option (Bool × Unit)) (a0 : (List Y6)) (b1 : (List Y6)) (i5 : Int) : Option (Bool × Unit) :=
  cond (decide (i5 < (a0.length : Int)))
  ((atI a0 i5).bind fun xq1 =>
  (atI b1 i5).bind fun xq2 =>
  (zz76 xq1 xq2).bind fun rq3 =>
  cond (!rq3.1)
  (some (false, (())))
  (rec a0 b1 (IntKind.i64.wrap (i5 + (1 : Int)))))
  (k)
def zz77_a4 : Option (Bool × Unit) :=
  some (true, (()))
def zz77_s (L4 : (List Y6) → (List Y6) → Int → Option (Bool × Unit)) (a_0 : (List Y6)) (b_1 : (List Y6)) : Option (Bool × Unit) :=
  cond (decide ((a_0.length : Int) ≠ (b_1.length : Int)))
  (some (false, (())))
  (L4 a_0 b_1 (0 : Int))
def zz77_l4 (N : Nat) (k : Option (Bool × Unit)) : Nat → (List Y6) → (List Y6) → Int → Option (Bool × Unit)
  | 0, _, _, _ => none
  | m + 1, a0, b1, i5 => zz77_b4 (zz77_l4 N k m) k a0 b1 i5
def zz77_F4 (N : Nat) (a0 : (List Y6)) (b1 : (List Y6)) (i5 : Int) : Option (Bool × Unit) := zz77_l4 N (zz77_a4) N a0 b1 i5
def zz77 (N : Nat) (a_0 : (List Y6)) (b_1 : (List Y6)) : Option (Bool × Unit) := zz77_s (zz77_F4 N) a_0 b_1
def S_zz77 : Sig := { a := (.pair (.sl (.pair I (.pair (.sl I) .unit))) (.pair (.sl (.pair I (.pair (.sl I) .unit))) .unit)), md := [0, 0], mf := [], m := .unit, r := .bool, rf := .i, f := fun x => zz77 big x.1 x.2.1 }
def A_zz77 : Cfg := mkCfg tab [(103, S_zz76)] [(8, [.as (.sl (.pair I (.pair (.sl I) .unit))) .i, .as (.sl (.pair I (.pair (.sl I) .unit))) .i, .drop, .drop, .drop, .as I .i]), (17, [])]
noncomputable def zz77_R4 (N n : Nat) (K : Ex → St → Option (Bool × Unit)) (a0 : (List Y6)) (b1 : (List Y6)) (i5 : Int) : Option (Bool × Unit) := iter ((A_zz77).shape 8) (run (A_zz77) N (codeAt Try.f72 [1, 1, 0, 1, 0, 0])) n ([.val (.sl (.pair I (.pair (.sl I) .unit))) .i a0, .val (.sl (.pair I (.pair (.sl I) .unit))) .i b1, .u, .u, .u, .val I .i i5] ++ List.replicate 21 .u) K
noncomputable abbrev zz77_z : Ex → St → Option (Bool × Unit) := finish (A_zz77) S_zz77 Try.f72.results.toList
noncomputable abbrev zz77_X4 (kX : St → Option (Bool × Unit)) : Option (Bool × Unit) := kX ([] ++ List.replicate 27 .u)
noncomputable abbrev zz77_E4 (kX : St → Option (Bool × Unit)) (kO : Nat → St → Option (Bool × Unit)) : Ex → St → Option (Bool × Unit) := exK zz77_z 0 ((A_zz77).shape 17) kX kO
theorem zz77_step4 (N : Nat) (m : Nat) (kX : St → Option (Bool × Unit)) (kO : Nat → St → Option (Bool × Unit)) (a0 : (List Y6)) (b1 : (List Y6)) (i5 : Int) : zz77_R4 N (m + 1) (zz77_E4 kX kO) a0 b1 i5 = zz77_b4 (zz77_R4 N m (zz77_E4 kX kO)) (zz77_X4 kX) a0 b1 i5 := by kernel_rfl
theorem zz77_iter4 (N : Nat) (kX : St → Option (Bool × Unit)) (kO : Nat → St → Option (Bool × Unit)) : ∀ (n : Nat) (a0 : (List Y6)) (b1 : (List Y6)) (i5 : Int), zz77_R4 N n (zz77_E4 kX kO) a0 b1 i5 = zz77_l4 N (zz77_X4 kX) n a0 b1 i5
  | 0, _, _, _ => rfl
  | m + 1, a0, b1, i5 => by
    have hrec : zz77_R4 N m (zz77_E4 kX kO) = (zz77_l4 N (zz77_X4 kX) m) := (funext fun a0 => (funext fun b1 => (funext fun i5 => zz77_iter4 N kX kO m a0 b1 i5)))
    refine (zz77_step4 N m kX kO a0 b1 i5).trans ?_
    rw [hrec]
    rfl
noncomputable abbrev zz77_K4 (N : Nat) : Ex → St → Option (Bool × Unit) := (blockK 0 (seqK ((A_zz77).shape 17) (run (A_zz77) N (codeAt Try.f72 [1, 1, 1])) zz77_z))
noncomputable abbrev zz77_k4 (N : Nat) : St → Option (Bool × Unit) := fun st' => run (A_zz77) N (codeAt Try.f72 [1, 1, 1]) st' zz77_z
theorem zz77_after4 (N : Nat) : zz77_X4 (zz77_k4 N) = zz77_a4 := by kernel_rfl
theorem zz77_in4 (N : Nat) (a0 : (List Y6)) (b1 : (List Y6)) (i5 : Int) : zz77_R4 N N (zz77_K4 N) a0 b1 i5 = zz77_F4 N a0 b1 i5 :=
  have h : zz77_X4 (zz77_k4 N) = (zz77_a4) := zz77_after4 N
  ((iter_ex (fun st => by kernel_rfl) (fun st => by kernel_rfl)).trans (zz77_iter4 N (zz77_k4 N) (fun j st => (zz77_K4 N) (.exit j) st) N a0 b1 i5)).trans (congrArg (fun k => zz77_l4 N k N a0 b1 i5) h)
theorem run0_zz77 (N : Nat) (x : (S_zz77).a.den) : runF (A_zz77) N Try.f72 S_zz77 x = (zz77_s (zz77_R4 N N (zz77_K4 N)) x.1 x.2.1) := by kernel_rfl
theorem run_zz77 (N : Nat) (x : (S_zz77).a.den) : runF (A_zz77) N Try.f72 S_zz77 x = zz77 N x.1 x.2.1 := by
  refine (run0_zz77 N x).trans ?_
  rw [(funext fun a0 => (funext fun b1 => (funext fun i5 => zz77_in4 N a0 b1 i5)))]
  rfl
theorem fn_zz77 : FnOk Try.prog 72 := ⟨_, Try.func72, by kernel_rfl, by kernel_rfl⟩
theorem good_zz77 : Gx.Good Try.prog 72 S_zz77 := good_of_run Try.func72 (of_decide_eq_true (by kernel_rfl)) fun x r h => ⟨A_zz77, big, mkCfg_ok tabOk, mkCfg_sigs (show SigsOk Try.prog [(103, S_zz76)] from ⟨⟨fn_zz76, good_zz76⟩, trivial⟩), (run_zz77 big x).trans h⟩

/-! zz78 -/
def zz78_s (a_0 : Y7) (b_1 : Y7) : Option (Bool × Unit) :=
  cond (decide (a_0.1 ≠ b_1.1))
  (some (false, (())))
  ((zz77 big a_0.2.1 b_1.2.1).bind fun rq1 =>
  cond (!rq1.1)
  (some (false, (())))
  (some (true, (()))))
def zz78 (a_0 : Y7) (b_1 : Y7) : Option (Bool × Unit) := zz78_s a_0 b_1
def S_zz78 : Sig := { a := (.pair (.pair I (.pair (.sl (.pair I (.pair (.sl I) .unit))) .unit)) (.pair (.pair I (.pair (.sl (.pair I (.pair (.sl I) .unit))) .unit)) .unit)), md := [0, 0], mf := [], m := .unit, r := .bool, rf := .i, f := fun x => zz78 x.1 x.2.1 }
def A_zz78 : Cfg := mkCfg tab [(72, S_zz77)] []
theorem run_zz78 (N : Nat) (x : (S_zz78).a.den) : runF (A_zz78) N Try.f31 S_zz78 x = zz78 x.1 x.2.1 := by kernel_rfl
theorem fn_zz78 : FnOk Try.prog 31 := ⟨_, Try.func31, by kernel_rfl, by kernel_rfl⟩
theorem good_zz78 : Gx.Good Try.prog 31 S_zz78 := good_of_run Try.func31 (of_decide_eq_true (by kernel_rfl)) fun x r h => ⟨A_zz78, big, mkCfg_ok tabOk, mkCfg_sigs (show SigsOk Try.prog [(72, S_zz77)] from ⟨⟨fn_zz77, good_zz77⟩, trivial⟩), (run_zz78 big x).trans h⟩
end Go.Proofs.Ytiklgbjlggcejaa
