import Derived.Test.YthmjdallklcbkaaGDp2
set_option maxRecDepth 100000
set_option linter.unusedVariables false
namespace Go.Proofs.Ythmjdallklcbkaa
open Go Go.Gx Go.Proofs

/-! zz75 -/
def zz75_b3 (rec : Y1 → Y4 → Y4 → Y4 → Int → Int → Option (Y4 × Unit)) (k : Y4 → Option (Y4 × Unit)) (l0 : Y1) (c1 : Y4) (list5 : Y4) (t10 : Y4) (t11 : Int) (t12 : Int) : Option (Y4 × Unit) :=
  cond (decide (t12 < t11))
  ((atI t10 t12).bind fun _ =>
  (t10[t12.toNat]?).bind fun xq2 =>
  (atI c1 xq2).bind fun xq3 =>
  (zz74 l0 xq2).bind fun rq4 =>
  (atI c1 rq4.1).bind fun xq5 =>
  cond (decide (xq3 = xq5))
  ((appI list5 [xq2]).bind fun xq6 =>
  rec l0 c1 xq6 t10 t11 (IntKind.i64.wrap (t12 + (1 : Int))))
  (rec l0 c1 list5 t10 t11 (IntKind.i64.wrap (t12 + (1 : Int)))))
  (k list5)
def zz75_a3 (list5 : Y4) : Option (Y4 × Unit) :=
  some (list5, (()))
def zz75_s (L3 : Y1 → Y4 → Y4 → Y4 → Int → Int → Option (Y4 × Unit)) (l_0 : Y1) (c_1 : Y4) : Option (Y4 × Unit) :=
  (zz73 l_0).bind fun rq1 =>
  L3 l_0 c_1 [] rq1.1 (rq1.1.length : Int) (0 : Int)
def zz75_l3 (N : Nat) (k : Y4 → Option (Y4 × Unit)) : Nat → Y1 → Y4 → Y4 → Y4 → Int → Int → Option (Y4 × Unit)
  | 0, _, _, _, _, _, _ => none
  | m + 1, l0, c1, list5, t10, t11, t12 => zz75_b3 (zz75_l3 N k m) k l0 c1 list5 t10 t11 t12
def zz75_F3 (N : Nat) (l0 : Y1) (c1 : Y4) (list5 : Y4) (t10 : Y4) (t11 : Int) (t12 : Int) : Option (Y4 × Unit) := zz75_l3 N (zz75_a3) N l0 c1 list5 t10 t11 t12
def zz75 (N : Nat) (l_0 : Y1) (c_1 : Y4) : Option (Y4 × Unit) := zz75_s (zz75_F3 N) l_0 c_1
def S_zz75 : Sig := { a := (.pair (.opt (.pair (.sl (.sl .bool)) (.pair (.sl (.sl I)) (.pair (.sl (.sl I)) .unit)))) (.pair (.sl I) .unit)), md := [0, 0], mf := [], m := .unit, r := (.sl I), rf := (.o .i), f := fun x => zz75 big x.1 x.2.1 }
def A_zz75 : Cfg := mkCfg tab [(114, S_zz73), (146, S_zz74)] [(6, [.as (.opt (.pair (.sl (.sl .bool)) (.pair (.sl (.sl I)) (.pair (.sl (.sl I)) .unit)))) .i, .as (.sl I) .i, .drop, .drop, .drop, .as (.sl I) (.o .i), .drop, .drop, .drop, .drop, .as (.sl I) (.o .i), .as I .i, .as I .i]), (17, [.drop, .drop, .drop, .drop, .drop, .as (.sl I) (.o .i)])]
noncomputable def zz75_R3 (N n : Nat) (K : Ex → St → Option (Y4 × Unit)) (l0 : Y1) (c1 : Y4) (list5 : Y4) (t10 : Y4) (t11 : Int) (t12 : Int) : Option (Y4 × Unit) := iter ((A_zz75).shape 6) (run (A_zz75) N (codeAt Try.f77 [1, 1, 0, 1, 0, 0])) n ([.val (.opt (.pair (.sl (.sl .bool)) (.pair (.sl (.sl I)) (.pair (.sl (.sl I)) .unit)))) .i l0, .val (.sl I) .i c1, .u, .u, .u, .val (.sl I) (.o .i) list5, .u, .u, .u, .u, .val (.sl I) (.o .i) t10, .val I .i t11, .val I .i t12] ++ List.replicate 20 .u) K
noncomputable abbrev zz75_z : Ex → St → Option (Y4 × Unit) := finish (A_zz75) S_zz75 Try.f77.results.toList
noncomputable abbrev zz75_X3 (kX : St → Option (Y4 × Unit)) : Y4 → Option (Y4 × Unit) := fun (list5 : Y4) => kX ([.u, .u, .u, .u, .u, .val (.sl I) (.o .i) list5] ++ List.replicate 27 .u)
noncomputable abbrev zz75_E3 (kX : St → Option (Y4 × Unit)) (kO : Nat → St → Option (Y4 × Unit)) : Ex → St → Option (Y4 × Unit) := exK zz75_z 0 ((A_zz75).shape 17) kX kO
theorem zz75_step3 (N : Nat) (m : Nat) (kX : St → Option (Y4 × Unit)) (kO : Nat → St → Option (Y4 × Unit)) (l0 : Y1) (c1 : Y4) (list5 : Y4) (t10 : Y4) (t11 : Int) (t12 : Int) : zz75_R3 N (m + 1) (zz75_E3 kX kO) l0 c1 list5 t10 t11 t12 = zz75_b3 (zz75_R3 N m (zz75_E3 kX kO)) (zz75_X3 kX) l0 c1 list5 t10 t11 t12 := by kernel_rfl
theorem zz75_iter3 (N : Nat) (kX : St → Option (Y4 × Unit)) (kO : Nat → St → Option (Y4 × Unit)) : ∀ (n : Nat) (l0 : Y1) (c1 : Y4) (list5 : Y4) (t10 : Y4) (t11 : Int) (t12 : Int), zz75_R3 N n (zz75_E3 kX kO) l0 c1 list5 t10 t11 t12 = zz75_l3 N (zz75_X3 kX) n l0 c1 list5 t10 t11 t12
  | 0, _, _, _, _, _, _ => rfl
  | m + 1, l0, c1, list5, t10, t11, t12 => by
    have hrec : zz75_R3 N m (zz75_E3 kX kO) = (zz75_l3 N (zz75_X3 kX) m) := (funext fun l0 => (funext fun c1 => (funext fun list5 => (funext fun t10 => (funext fun t11 => (funext fun t12 => zz75_iter3 N kX kO m l0 c1 list5 t10 t11 t12))))))
    refine (zz75_step3 N m kX kO l0 c1 list5 t10 t11 t12).trans ?_
    rw [hrec]
    rfl
noncomputable abbrev zz75_K3 (N : Nat) : Ex → St → Option (Y4 × Unit) := (blockK 0 (seqK ((A_zz75).shape 17) (run (A_zz75) N (codeAt Try.f77 [1, 1, 1])) zz75_z))
noncomputable abbrev zz75_k3 (N : Nat) : St → Option (Y4 × Unit) := fun st' => run (A_zz75) N (codeAt Try.f77 [1, 1, 1]) st' zz75_z
theorem zz75_after3 (N : Nat) (list5 : Y4) : zz75_X3 (zz75_k3 N) list5 = zz75_a3 list5 := by kernel_rfl
theorem zz75_in3 (N : Nat) (l0 : Y1) (c1 : Y4) (list5 : Y4) (t10 : Y4) (t11 : Int) (t12 : Int) : zz75_R3 N N (zz75_K3 N) l0 c1 list5 t10 t11 t12 = zz75_F3 N l0 c1 list5 t10 t11 t12 :=
  have h : zz75_X3 (zz75_k3 N) = (zz75_a3) := (funext fun list5 => zz75_after3 N list5)
  ((iter_ex (fun st => by kernel_rfl) (fun st => by kernel_rfl)).trans (zz75_iter3 N (zz75_k3 N) (fun j st => (zz75_K3 N) (.exit j) st) N l0 c1 list5 t10 t11 t12)).trans (congrArg (fun k => zz75_l3 N k N l0 c1 list5 t10 t11 t12) h)
theorem run0_zz75 (N : Nat) (x : (S_zz75).a.den) : runF (A_zz75) N Try.f77 S_zz75 x = (zz75_s (zz75_R3 N N (zz75_K3 N)) x.1 x.2.1) := by kernel_rfl
theorem run_zz75 (N : Nat) (x : (S_zz75).a.den) : runF (A_zz75) N Try.f77 S_zz75 x = zz75 N x.1 x.2.1 := by
  refine (run0_zz75 N x).trans ?_
  rw [(funext fun l0 => (funext fun c1 => (funext fun list5 => (funext fun t10 => (funext fun t11 => (funext fun t12 => zz75_in3 N l0 c1 list5 t10 t11 t12))))))]
  rfl
theorem fn_zz75 : FnOk Try.prog 77 := ⟨_, Try.func77, by kernel_rfl, by kernel_rfl⟩
theorem good_zz75 : Gx.Good Try.prog 77 S_zz75 := good_of_run Try.func77 (of_decide_eq_true (by kernel_rfl)) fun x r h => ⟨A_zz75, big, mkCfg_ok tabOk, mkCfg_sigs (show SigsOk Try.prog [(114, S_zz73), (146, S_zz74)] from ⟨⟨fn_zz73, good_zz73⟩, ⟨fn_zz74, good_zz74⟩, trivial⟩), (run_zz75 big x).trans h⟩

/-! zz76 -/
def zz76_s (p_0 : Y2) (c_1 : Y4) : Option ((Y4 × (Bool × Unit)) × Unit) :=
  (zz42 p_0).bind fun rq1 =>
  cond (!rq1.1.2.1)
  (some (([], false, ()), (())))
  ((zz44 rq1.1.1).bind fun rq2 =>
  (zz49 rq2.1 c_1).bind fun rq3 =>
  cond (!rq3.1)
  (some (([], false, ()), (())))
  ((zz75 big rq1.1.1 c_1).bind fun rq4 =>
  some ((rq4.1, true, ()), (()))))
def zz76 (p_0 : Y2) (c_1 : Y4) : Option ((Y4 × (Bool × Unit)) × Unit) := zz76_s p_0 c_1
def S_zz76 : Sig := { a := (.pair (.pair (.sl (.sl I)) .unit) (.pair (.sl I) .unit)), md := [0, 0], mf := [], m := .unit, r := (.tup (.pair (.sl I) (.pair .bool .unit))), rf := (.p (.o .i) .i), f := fun x => zz76 x.1 x.2.1 }
def A_zz76 : Cfg := mkCfg tab [(71, S_zz42), (73, S_zz44), (72, S_zz49), (77, S_zz75)] []
theorem run_zz76 (N : Nat) (x : (S_zz76).a.den) : runF (A_zz76) N Try.f33 S_zz76 x = zz76 x.1 x.2.1 := by kernel_rfl
theorem fn_zz76 : FnOk Try.prog 33 := ⟨_, Try.func33, by kernel_rfl, by kernel_rfl⟩
theorem good_zz76 : Gx.Good Try.prog 33 S_zz76 := good_of_run Try.func33 (of_decide_eq_true (by kernel_rfl)) fun x r h => ⟨A_zz76, big, mkCfg_ok tabOk, mkCfg_sigs (show SigsOk Try.prog [(71, S_zz42), (73, S_zz44), (72, S_zz49), (77, S_zz75)] from ⟨⟨fn_zz42, good_zz42⟩, ⟨fn_zz44, good_zz44⟩, ⟨fn_zz49, good_zz49⟩, ⟨fn_zz75, good_zz75⟩, trivial⟩), (run_zz76 big x).trans h⟩

/-! zz77 -/
def zz77_b2 (rec : Y4 → Int → Int → Option (Int × Unit)) (k : Int → Option (Int × Unit)) (a0 : Y4) (k1 : Int) (i5 : Int) : Option (Int × Unit) :=
  cond (decide (i5 < (a0.length : Int)))
  ((atI a0 i5).bind fun xq1 =>
  cond (decide (xq1 ≠ k1))
  (some ((-1 : Int), (())))
  (rec a0 (IntKind.i64.wrap (k1 + (1 : Int))) (IntKind.i64.wrap (i5 + (1 : Int)))))
  (k k1)
def zz77_a2 (k1 : Int) : Option (Int × Unit) :=
  some (k1, (()))
def zz77_s (L2 : Y4 → Int → Int → Option (Int × Unit)) (a_0 : Y4) (k_1 : Int) : Option (Int × Unit) :=
  L2 a_0 k_1 (0 : Int)
def zz77_l2 (N : Nat) (k : Int → Option (Int × Unit)) : Nat → Y4 → Int → Int → Option (Int × Unit)
  | 0, _, _, _ => none
  | m + 1, a0, k1, i5 => zz77_b2 (zz77_l2 N k m) k a0 k1 i5
def zz77_F2 (N : Nat) (a0 : Y4) (k1 : Int) (i5 : Int) : Option (Int × Unit) := zz77_l2 N (zz77_a2) N a0 k1 i5
def zz77 (N : Nat) (a_0 : Y4) (k_1 : Int) : Option (Int × Unit) := zz77_s (zz77_F2 N) a_0 k_1
def S_zz77 : Sig := { a := (.pair (.sl I) (.pair I .unit)), md := [0, 0], mf := [], m := .unit, r := I, rf := .i, f := fun x => zz77 big x.1 x.2.1 }
def A_zz77 : Cfg := mkCfg tab [] [(4, [.as (.sl I) .i, .as I .i, .drop, .drop, .drop, .as I .i]), (15, [.drop, .as I .i])]
noncomputable def zz77_R2 (N n : Nat) (K : Ex → St → Option (Int × Unit)) (a0 : Y4) (k1 : Int) (i5 : Int) : Option (Int × Unit) := iter ((A_zz77).shape 4) (run (A_zz77) N (codeAt Try.f34 [1, 0, 1, 0, 0])) n ([.val (.sl I) .i a0, .val I .i k1, .u, .u, .u, .val I .i i5] ++ List.replicate 15 .u) K
noncomputable abbrev zz77_z : Ex → St → Option (Int × Unit) := finish (A_zz77) S_zz77 Try.f34.results.toList
noncomputable abbrev zz77_X2 (kX : St → Option (Int × Unit)) : Int → Option (Int × Unit) := fun (k1 : Int) => kX ([.u, .val I .i k1] ++ List.replicate 19 .u)
noncomputable abbrev zz77_E2 (kX : St → Option (Int × Unit)) (kO : Nat → St → Option (Int × Unit)) : Ex → St → Option (Int × Unit) := exK zz77_z 0 ((A_zz77).shape 15) kX kO
theorem zz77_step2 (N : Nat) (m : Nat) (kX : St → Option (Int × Unit)) (kO : Nat → St → Option (Int × Unit)) (a0 : Y4) (k1 : Int) (i5 : Int) : zz77_R2 N (m + 1) (zz77_E2 kX kO) a0 k1 i5 = zz77_b2 (zz77_R2 N m (zz77_E2 kX kO)) (zz77_X2 kX) a0 k1 i5 := by kernel_rfl
theorem zz77_iter2 (N : Nat) (kX : St → Option (Int × Unit)) (kO : Nat → St → Option (Int × Unit)) : ∀ (n : Nat) (a0 : Y4) (k1 : Int) (i5 : Int), zz77_R2 N n (zz77_E2 kX kO) a0 k1 i5 = zz77_l2 N (zz77_X2 kX) n a0 k1 i5
  | 0, _, _, _ => rfl
  | m + 1, a0, k1, i5 => by
    have hrec : zz77_R2 N m (zz77_E2 kX kO) = (zz77_l2 N (zz77_X2 kX) m) := (funext fun a0 => (funext fun k1 => (funext fun i5 => zz77_iter2 N kX kO m a0 k1 i5)))
    refine (zz77_step2 N m kX kO a0 k1 i5).trans ?_
    rw [hrec]
    rfl
noncomputable abbrev zz77_K2 (N : Nat) : Ex → St → Option (Int × Unit) := (blockK 0 (seqK ((A_zz77).shape 15) (run (A_zz77) N (codeAt Try.f34 [1, 1])) zz77_z))
noncomputable abbrev zz77_k2 (N : Nat) : St → Option (Int × Unit) := fun st' => run (A_zz77) N (codeAt Try.f34 [1, 1]) st' zz77_z
theorem zz77_after2 (N : Nat) (k1 : Int) : zz77_X2 (zz77_k2 N) k1 = zz77_a2 k1 := by kernel_rfl
theorem zz77_in2 (N : Nat) (a0 : Y4) (k1 : Int) (i5 : Int) : zz77_R2 N N (zz77_K2 N) a0 k1 i5 = zz77_F2 N a0 k1 i5 :=
  have h : zz77_X2 (zz77_k2 N) = (zz77_a2) := (funext fun k1 => zz77_after2 N k1)
  ((iter_ex (fun st => by kernel_rfl) (fun st => by kernel_rfl)).trans (zz77_iter2 N (zz77_k2 N) (fun j st => (zz77_K2 N) (.exit j) st) N a0 k1 i5)).trans (congrArg (fun k => zz77_l2 N k N a0 k1 i5) h)
theorem run0_zz77 (N : Nat) (x : (S_zz77).a.den) : runF (A_zz77) N Try.f34 S_zz77 x = (zz77_s (zz77_R2 N N (zz77_K2 N)) x.1 x.2.1) := by kernel_rfl
theorem run_zz77 (N : Nat) (x : (S_zz77).a.den) : runF (A_zz77) N Try.f34 S_zz77 x = zz77 N x.1 x.2.1 := by
  refine (run0_zz77 N x).trans ?_
  rw [(funext fun a0 => (funext fun k1 => (funext fun i5 => zz77_in2 N a0 k1 i5)))]
  rfl
theorem fn_zz77 : FnOk Try.prog 34 := ⟨_, Try.func34, by kernel_rfl, by kernel_rfl⟩
theorem good_zz77 : Gx.Good Try.prog 34 S_zz77 := good_of_run Try.func34 (of_decide_eq_true (by kernel_rfl)) fun x r h => ⟨A_zz77, big, mkCfg_ok tabOk, mkCfg_sigs (show SigsOk Try.prog [] from trivial), (run_zz77 big x).trans h⟩

/-! laws_FnExactContractedBy -/
def laws_FnExactContractedBy_s (aP_0 : Y2) (aC_1 : Y4) : Option (Bool × Unit) :=
  cond (decide ((1048576 : Int) < (aC_1.length : Int)))
  (some (true, (())))
  ((zz2 aP_0 (1048576 : Int)).bind fun rq1 =>
  cond (decide (rq1.1 < (0 : Int)))
  (some (true, (())))
  ((zz5 aP_0).bind fun rq2 =>
  (zz3 big aC_1).bind fun rq3 =>
  (zz67 rq2.1 rq3.1).bind fun rq4 =>
  (zz5 aP_0).bind fun rq5 =>
  (zz3 big aC_1).bind fun rq6 =>
  (zz76 rq5.1 rq6.1).bind fun rq7 =>
  (zz56 big rq7.1.1 rq4.1.1).bind fun rq8 =>
  cond (!rq8.1)
  (some (false, (())))
  (cond (((((), rq7.1.2).2).1) != ((((), rq4.1.2).2).1))
  (some (false, (())))
  ((zz5 aP_0).bind fun rq9 =>
  (zz58 rq5.1 rq9.1).bind fun rq10 =>
  cond (!rq10.1)
  (some (false, (())))
  ((zz3 big aC_1).bind fun rq11 =>
  (zz56 big rq6.1 rq11.1).bind fun rq12 =>
  cond (!rq12.1)
  (some (false, (())))
  ((zz61 rq5.1 (1 : Int)).bind fun rq13 =>
  (zz59 big rq6.1 rq13.1).bind fun rq14 =>
  cond (decide (rq14.1 < (0 : Int)))
  (some (false, (())))
  ((zz56 big rq7.1.1 rq4.1.1).bind fun rq15 =>
  cond (!rq15.1)
  (some (false, (())))
  (cond (((((), rq7.1.2).2).1) != ((((), rq4.1.2).2).1))
  (some (false, (())))
  ((zz59 big rq7.1.1 (1 : Int)).bind fun rq16 =>
  (zz77 big rq16.2.1 (1 : Int)).bind fun rq17 =>
  cond (decide (rq17.1 < (0 : Int)))
  (some (false, (())))
  (cond (decide (rq17.1 ≠ rq16.1))
  (some (false, (())))
  ((zz5 aP_0).bind fun rq18 =>
  (zz3 big aC_1).bind fun rq19 =>
  (zz76 rq18.1 rq19.1).bind fun rq20 =>
  (zz56 big rq20.1.1 rq4.1.1).bind fun rq21 =>
  cond (!rq21.1)
  (some (false, (())))
  (cond (((((), rq20.1.2).2).1) != ((((), rq4.1.2).2).1))
  (some (false, (())))
  ((zz77 big rq16.2.1 (1 : Int)).bind fun rq22 =>
  cond (decide (rq22.1 < (0 : Int)))
  (some (false, (())))
  (cond (decide (rq22.1 ≠ rq16.1))
  (some (false, (())))
  (some (true, (())))))))))))))))))
def laws_FnExactContractedBy (aP_0 : Y2) (aC_1 : Y4) : Option (Bool × Unit) := laws_FnExactContractedBy_s aP_0 aC_1
def S_laws_FnExactContractedBy : Sig := { a := (.pair (.pair (.sl (.sl I)) .unit) (.pair (.sl I) .unit)), md := [0, 0], mf := [], m := .unit, r := .bool, rf := .i, f := fun x => laws_FnExactContractedBy x.1 x.2.1 }
def A_laws_FnExactContractedBy : Cfg := mkCfg tab [(15, S_zz2), (17, S_zz5), (25, S_zz3), (32, S_zz67), (33, S_zz76), (28, S_zz56), (20, S_zz58), (21, S_zz61), (29, S_zz59), (34, S_zz77)] []
theorem run_laws_FnExactContractedBy (N : Nat) (x : (S_laws_FnExactContractedBy).a.den) : runF (A_laws_FnExactContractedBy) N Try.f5 S_laws_FnExactContractedBy x = laws_FnExactContractedBy x.1 x.2.1 := by kernel_rfl
theorem fn_laws_FnExactContractedBy : FnOk Try.prog 5 := ⟨_, Try.func5, by kernel_rfl, by kernel_rfl⟩
theorem good_laws_FnExactContractedBy : Gx.Good Try.prog 5 S_laws_FnExactContractedBy := good_of_run Try.func5 (of_decide_eq_true (by kernel_rfl)) fun x r h => ⟨A_laws_FnExactContractedBy, big, mkCfg_ok tabOk, mkCfg_sigs (show SigsOk Try.prog [(15, S_zz2), (17, S_zz5), (25, S_zz3), (32, S_zz67), (33, S_zz76), (28, S_zz56), (20, S_zz58), (21, S_zz61), (29, S_zz59), (34, S_zz77)] from ⟨⟨fn_zz2, good_zz2⟩, ⟨fn_zz5, good_zz5⟩, ⟨fn_zz3, good_zz3⟩, ⟨fn_zz67, good_zz67⟩, ⟨fn_zz76, good_zz76⟩, ⟨fn_zz56, good_zz56⟩, ⟨fn_zz58, good_zz58⟩, ⟨fn_zz61, good_zz61⟩, ⟨fn_zz59, good_zz59⟩, ⟨fn_zz77, good_zz77⟩, trivial⟩), (run_laws_FnExactContractedBy big x).trans h⟩
end Go.Proofs.Ythmjdallklcbkaa
