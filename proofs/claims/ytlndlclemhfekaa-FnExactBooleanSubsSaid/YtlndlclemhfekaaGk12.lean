import Derived.Test.YtlndlclemhfekaaVk12
set_option maxRecDepth 100000
set_option linter.unusedVariables false
namespace Go.Proofs.Ytlndlclemhfekaa
open Go Go.Gx Go.Proofs
noncomputable section

/-! zz64 -/
def zz64_b7 (rec : Y1 → Y4 → Y3 → Int → Option ((Y3 × (Bool × Unit)) × Unit)) (k : Y3 → Option ((Y3 × (Bool × Unit)) × Unit)) (l4 : Y1) (not6 : Y4) (list7 : Y3) (mask8 : Int) : Option ((Y3 × (Bool × Unit)) × Unit) :=
  (l4).bind fun xq3 =>
  (shlI IntKind.i64 (1 : Int) (xq3.1.length : Int)).bind fun xq4 =>
  cond (decide (mask8 < xq4))
  ((zz55 big mask8).bind fun rq5 =>
  (zz60 l4 rq5.1).bind fun rq6 =>
  cond rq6.1
  ((zz43 big l4).bind fun rq7 =>
  (zz61 big rq5.1 rq7.1).bind fun rq8 =>
  cond (!rq8.1)
  ((zz62 big rq5.1 not6).bind fun rq9 =>
  (zz63 big rq9.1 rq5.1).bind fun rq10 =>
  cond rq10.1
  ((appI list7 [rq5.1]).bind fun xq11 =>
  rec l4 not6 xq11 (IntKind.i64.wrap (mask8 + (1 : Int))))
  (rec l4 not6 list7 (IntKind.i64.wrap (mask8 + (1 : Int)))))
  (rec l4 not6 list7 (IntKind.i64.wrap (mask8 + (1 : Int)))))
  (rec l4 not6 list7 (IntKind.i64.wrap (mask8 + (1 : Int)))))
  (k list7)
def zz64_a7 (list7 : Y3) : Option ((Y3 × (Bool × Unit)) × Unit) :=
  (impl_sortRows_k_compareTerms list7 ()).bind fun rq12 =>
  some ((rq12.2.1, true, ()), (()))
def zz64_s (L7 : Y1 → Y4 → Y3 → Int → Option ((Y3 × (Bool × Unit)) × Unit)) (p_0 : Y2) : Option ((Y3 × (Bool × Unit)) × Unit) :=
  (zz53 p_0).bind fun rq1 =>
  cond (!rq1.1.2.1)
  (some (([], false, ()), (())))
  ((zz54 big rq1.1.1).bind fun rq2 =>
  L7 rq1.1.1 rq2.1 [] (0 : Int))
def zz64_l7 (N : Nat) (k : Y3 → Option ((Y3 × (Bool × Unit)) × Unit)) : Nat → Y1 → Y4 → Y3 → Int → Option ((Y3 × (Bool × Unit)) × Unit)
  | 0, _, _, _, _ => none
  | m + 1, l4, not6, list7, mask8 => zz64_b7 (zz64_l7 N k m) k l4 not6 list7 mask8
def zz64_F7 (N : Nat) (l4 : Y1) (not6 : Y4) (list7 : Y3) (mask8 : Int) : Option ((Y3 × (Bool × Unit)) × Unit) := zz64_l7 N (zz64_a7) N l4 not6 list7 mask8
def zz64 (N : Nat) (p_0 : Y2) : Option ((Y3 × (Bool × Unit)) × Unit) := zz64_s (zz64_F7 N) p_0
def S_zz64 : Sig := { a := (.pair (.pair (.sl (.sl I)) .unit) .unit), md := [0], mf := [], m := .unit, r := (.tup (.pair (.sl (.sl I)) (.pair .bool .unit))), rf := (.p (.o (.o .i)) .i), f := fun x => zz64 big x.1 }
def A_zz64 : Cfg := mkCfg tab [(40, S_zz53), (41, S_zz54), (42, S_zz55), (43, S_zz60), (45, S_zz43), (44, S_zz61), (47, S_zz62), (46, S_zz63), (31, S_impl_sortRows_k_compareTerms)] [(14, [.drop, .drop, .drop, .drop, .as (.opt (.pair (.sl (.sl .bool)) (.pair (.sl (.sl I)) (.pair (.sl (.sl I)) .unit)))) .i, .drop, .as (.sl I) (.o .i), .as (.sl (.sl I)) (.o (.o .i)), .as I .i]), (25, [.drop, .drop, .drop, .drop, .drop, .drop, .drop, .as (.sl (.sl I)) (.o (.o .i))])]
noncomputable def zz64_R7 (N n : Nat) (K : Ex → St → Option ((Y3 × (Bool × Unit)) × Unit)) (l4 : Y1) (not6 : Y4) (list7 : Y3) (mask8 : Int) : Option ((Y3 × (Bool × Unit)) × Unit) := iter ((A_zz64).shape 14) (run (A_zz64) N (codeAt Try.f17 [1, 1, 1, 1, 1, 0, 1, 0, 0])) n ([.u, .u, .u, .u, .val (.opt (.pair (.sl (.sl .bool)) (.pair (.sl (.sl I)) (.pair (.sl (.sl I)) .unit)))) .i l4, .u, .val (.sl I) (.o .i) not6, .val (.sl (.sl I)) (.o (.o .i)) list7, .val I .i mask8] ++ List.replicate 48 .u) K
noncomputable abbrev zz64_z : Ex → St → Option ((Y3 × (Bool × Unit)) × Unit) := finish (A_zz64) S_zz64 Try.f17.results.toList
noncomputable abbrev zz64_X7 (kX : St → Option ((Y3 × (Bool × Unit)) × Unit)) : Y3 → Option ((Y3 × (Bool × Unit)) × Unit) := fun (list7 : Y3) => kX ([.u, .u, .u, .u, .u, .u, .u, .val (.sl (.sl I)) (.o (.o .i)) list7] ++ List.replicate 49 .u)
noncomputable abbrev zz64_E7 (kX : St → Option ((Y3 × (Bool × Unit)) × Unit)) (kO : Nat → St → Option ((Y3 × (Bool × Unit)) × Unit)) : Ex → St → Option ((Y3 × (Bool × Unit)) × Unit) := exK zz64_z 0 ((A_zz64).shape 25) kX kO
theorem zz64_step7 (N : Nat) (m : Nat) (kX : St → Option ((Y3 × (Bool × Unit)) × Unit)) (kO : Nat → St → Option ((Y3 × (Bool × Unit)) × Unit)) (l4 : Y1) (not6 : Y4) (list7 : Y3) (mask8 : Int) : zz64_R7 N (m + 1) (zz64_E7 kX kO) l4 not6 list7 mask8 = zz64_b7 (zz64_R7 N m (zz64_E7 kX kO)) (zz64_X7 kX) l4 not6 list7 mask8 := by kernel_rfl
theorem zz64_iter7 (N : Nat) (kX : St → Option ((Y3 × (Bool × Unit)) × Unit)) (kO : Nat → St → Option ((Y3 × (Bool × Unit)) × Unit)) : ∀ (n : Nat) (l4 : Y1) (not6 : Y4) (list7 : Y3) (mask8 : Int), zz64_R7 N n (zz64_E7 kX kO) l4 not6 list7 mask8 = zz64_l7 N (zz64_X7 kX) n l4 not6 list7 mask8
  | 0, _, _, _, _ => rfl
  | m + 1, l4, not6, list7, mask8 => by
    have hrec : zz64_R7 N m (zz64_E7 kX kO) = (zz64_l7 N (zz64_X7 kX) m) := (funext fun l4 => (funext fun not6 => (funext fun list7 => (funext fun mask8 => zz64_iter7 N kX kO m l4 not6 list7 mask8))))
    refine (zz64_step7 N m kX kO l4 not6 list7 mask8).trans ?_
    rw [hrec]
    rfl
noncomputable abbrev zz64_K7 (N : Nat) : Ex → St → Option ((Y3 × (Bool × Unit)) × Unit) := (blockK 0 (seqK ((A_zz64).shape 25) (run (A_zz64) N (codeAt Try.f17 [1, 1, 1, 1, 1, 1])) zz64_z))
noncomputable abbrev zz64_k7 (N : Nat) : St → Option ((Y3 × (Bool × Unit)) × Unit) := fun st' => run (A_zz64) N (codeAt Try.f17 [1, 1, 1, 1, 1, 1]) st' zz64_z
theorem zz64_after7 (N : Nat) (list7 : Y3) : zz64_X7 (zz64_k7 N) list7 = zz64_a7 list7 := by kernel_rfl
theorem zz64_in7 (N : Nat) (l4 : Y1) (not6 : Y4) (list7 : Y3) (mask8 : Int) : zz64_R7 N N (zz64_K7 N) l4 not6 list7 mask8 = zz64_F7 N l4 not6 list7 mask8 :=
  have h : zz64_X7 (zz64_k7 N) = (zz64_a7) := (funext fun list7 => zz64_after7 N list7)
  ((iter_ex (fun st => by kernel_rfl) (fun st => by kernel_rfl)).trans (zz64_iter7 N (zz64_k7 N) (fun j st => (zz64_K7 N) (.exit j) st) N l4 not6 list7 mask8)).trans (congrArg (fun k => zz64_l7 N k N l4 not6 list7 mask8) h)
theorem run0_zz64 (N : Nat) (x : (S_zz64).a.den) : runF (A_zz64) N Try.f17 S_zz64 x = (zz64_s (zz64_R7 N N (zz64_K7 N)) x.1) := by kernel_rfl
theorem run_zz64 (N : Nat) (x : (S_zz64).a.den) : runF (A_zz64) N Try.f17 S_zz64 x = zz64 N x.1 := by
  refine (run0_zz64 N x).trans ?_
  rw [(funext fun l4 => (funext fun not6 => (funext fun list7 => (funext fun mask8 => zz64_in7 N l4 not6 list7 mask8))))]
  rfl
theorem fn_zz64 : FnOk Try.prog 17 := ⟨_, Try.func17, by kernel_rfl, by kernel_rfl⟩
theorem good_zz64 : Gx.Good Try.prog 17 S_zz64 := good_of_run Try.func17 (of_decide_eq_true (by kernel_rfl)) fun x r h => ⟨A_zz64, big, mkCfg_ok tabOk, mkCfg_sigs (show SigsOk Try.prog [(40, S_zz53), (41, S_zz54), (42, S_zz55), (43, S_zz60), (45, S_zz43), (44, S_zz61), (47, S_zz62), (46, S_zz63), (31, S_impl_sortRows_k_compareTerms)] from ⟨⟨fn_zz53, good_zz53⟩, ⟨fn_zz54, good_zz54⟩, ⟨fn_zz55, good_zz55⟩, ⟨fn_zz60, good_zz60⟩, ⟨fn_zz43, good_zz43⟩, ⟨fn_zz61, good_zz61⟩, ⟨fn_zz62, good_zz62⟩, ⟨fn_zz63, good_zz63⟩, ⟨fn_impl_sortRows_k_compareTerms, good_impl_sortRows_k_compareTerms⟩, trivial⟩), (run_zz64 big x).trans h⟩

/-! zz65 -/
def zz65_b4 (rec : Y4 → Y4 → Int → Option (Bool × Unit)) (k : Option (Bool × Unit)) (a0 : Y4) (b1 : Y4) (i5 : Int) : Option (Bool × Unit) :=
  cond (decide (i5 < (a0.length : Int)))
  ((atI a0 i5).bind fun xq1 =>
  (atI b1 i5).bind fun xq2 =>
  cond (decide (xq1 ≠ xq2))
  (some (false, (())))
  (rec a0 b1 (IntKind.i64.wrap (i5 + (1 : Int)))))
  (k)
def zz65_a4 : Option (Bool × Unit) :=
  some (true, (()))
def zz65_s (L4 : Y4 → Y4 → Int → Option (Bool × Unit)) (a_0 : Y4) (b_1 : Y4) : Option (Bool × Unit) :=
  cond (decide ((a_0.length : Int) ≠ (b_1.length : Int)))
  (some (false, (())))
  (L4 a_0 b_1 (0 : Int))
def zz65_l4 (N : Nat) (k : Option (Bool × Unit)) : Nat → Y4 → Y4 → Int → Option (Bool × Unit)
  | 0, _, _, _ => none
  | m + 1, a0, b1, i5 => zz65_b4 (zz65_l4 N k m) k a0 b1 i5
def zz65_F4 (N : Nat) (a0 : Y4) (b1 : Y4) (i5 : Int) : Option (Bool × Unit) := zz65_l4 N (zz65_a4) N a0 b1 i5
def zz65 (N : Nat) (a_0 : Y4) (b_1 : Y4) : Option (Bool × Unit) := zz65_s (zz65_F4 N) a_0 b_1
def S_zz65 : Sig := { a := (.pair (.sl I) (.pair (.sl I) .unit)), md := [0, 0], mf := [], m := .unit, r := .bool, rf := .i, f := fun x => zz65 big x.1 x.2.1 }
def A_zz65 : Cfg := mkCfg tab [] [(8, [.as (.sl I) .i, .as (.sl I) .i, .drop, .drop, .drop, .as I .i]), (17, [])]
noncomputable def zz65_R4 (N n : Nat) (K : Ex → St → Option (Bool × Unit)) (a0 : Y4) (b1 : Y4) (i5 : Int) : Option (Bool × Unit) := iter ((A_zz65).shape 8) (run (A_zz65) N (codeAt Try.f33 [1, 1, 0, 1, 0, 0])) n ([.val (.sl I) .i a0, .val (.sl I) .i b1, .u, .u, .u, .val I .i i5] ++ List.replicate 20 .u) K
noncomputable abbrev zz65_z : Ex → St → Option (Bool × Unit) := finish (A_zz65) S_zz65 Try.f33.results.toList
noncomputable abbrev zz65_X4 (kX : St → Option (Bool × Unit)) : Option (Bool × Unit) := kX ([] ++ List.replicate 26 .u)
noncomputable abbrev zz65_E4 (kX : St → Option (Bool × Unit)) (kO : Nat → St → Option (Bool × Unit)) : Ex → St → Option (Bool × Unit) := exK zz65_z 0 ((A_zz65).shape 17) kX kO
theorem zz65_step4 (N : Nat) (m : Nat) (kX : St → Option (Bool × Unit)) (kO : Nat → St → Option (Bool × Unit)) (a0 : Y4) (b1 : Y4) (i5 : Int) : zz65_R4 N (m + 1) (zz65_E4 kX kO) a0 b1 i5 = zz65_b4 (zz65_R4 N m (zz65_E4 kX kO)) (zz65_X4 kX) a0 b1 i5 := by kernel_rfl
theorem zz65_iter4 (N : Nat) (kX : St → Option (Bool × Unit)) (kO : Nat → St → Option (Bool × Unit)) : ∀ (n : Nat) (a0 : Y4) (b1 : Y4) (i5 : Int), zz65_R4 N n (zz65_E4 kX kO) a0 b1 i5 = zz65_l4 N (zz65_X4 kX) n a0 b1 i5
  | 0, _, _, _ => rfl
  | m + 1, a0, b1, i5 => by
    have hrec : zz65_R4 N m (zz65_E4 kX kO) = (zz65_l4 N (zz65_X4 kX) m) := (funext fun a0 => (funext fun b1 => (funext fun i5 => zz65_iter4 N kX kO m a0 b1 i5)))
    refine (zz65_step4 N m kX kO a0 b1 i5).trans ?_
    rw [hrec]
    rfl
noncomputable abbrev zz65_K4 (N : Nat) : Ex → St → Option (Bool × Unit) := (blockK 0 (seqK ((A_zz65).shape 17) (run (A_zz65) N (codeAt Try.f33 [1, 1, 1])) zz65_z))
noncomputable abbrev zz65_k4 (N : Nat) : St → Option (Bool × Unit) := fun st' => run (A_zz65) N (codeAt Try.f33 [1, 1, 1]) st' zz65_z
theorem zz65_after4 (N : Nat) : zz65_X4 (zz65_k4 N) = zz65_a4 := by kernel_rfl
theorem zz65_in4 (N : Nat) (a0 : Y4) (b1 : Y4) (i5 : Int) : zz65_R4 N N (zz65_K4 N) a0 b1 i5 = zz65_F4 N a0 b1 i5 :=
  have h : zz65_X4 (zz65_k4 N) = (zz65_a4) := zz65_after4 N
  ((iter_ex (fun st => by kernel_rfl) (fun st => by kernel_rfl)).trans (zz65_iter4 N (zz65_k4 N) (fun j st => (zz65_K4 N) (.exit j) st) N a0 b1 i5)).trans (congrArg (fun k => zz65_l4 N k N a0 b1 i5) h)
theorem run0_zz65 (N : Nat) (x : (S_zz65).a.den) : runF (A_zz65) N Try.f33 S_zz65 x = (zz65_s (zz65_R4 N N (zz65_K4 N)) x.1 x.2.1) := by kernel_rfl
theorem run_zz65 (N : Nat) (x : (S_zz65).a.den) : runF (A_zz65) N Try.f33 S_zz65 x = zz65 N x.1 x.2.1 := by
  refine (run0_zz65 N x).trans ?_
  rw [(funext fun a0 => (funext fun b1 => (funext fun i5 => zz65_in4 N a0 b1 i5)))]
  rfl
theorem fn_zz65 : FnOk Try.prog 33 := ⟨_, Try.func33, by kernel_rfl, by kernel_rfl⟩
theorem good_zz65 : Gx.Good Try.prog 33 S_zz65 := good_of_run Try.func33 (of_decide_eq_true (by kernel_rfl)) fun x r h => ⟨A_zz65, big, mkCfg_ok tabOk, mkCfg_sigs (show SigsOk Try.prog [] from trivial), (run_zz65 big x).trans h⟩

/-! zz66 -/
def zz66_b4 (rec : Y3 → Y3 → Int → Option (Bool × Unit)) (k : Option (Bool × Unit)) (a0 : Y3) (b1 : Y3) (i5 : Int) : Option (Bool × Unit) :=
  cond (decide (i5 < (a0.length : Int)))
  ((atI a0 i5).bind fun xq1 =>
  (atI b1 i5).bind fun xq2 =>
  (zz65 big xq1 xq2).bind fun rq3 =>
  cond (!rq3.1)
  (some (false, (())))
  (rec a0 b1 (IntKind.i64.wrap (i5 + (1 : Int)))))
  (k)
def zz66_a4 : Option (Bool × Unit) :=
  some (true, (()))
def zz66_s (L4 : Y3 → Y3 → Int → Option (Bool × Unit)) (a_0 : Y3) (b_1 : Y3) : Option (Bool × Unit) :=
  cond (decide ((a_0.length : Int) ≠ (b_1.length : Int)))
  (some (false, (())))
  (L4 a_0 b_1 (0 : Int))
def zz66_l4 (N : Nat) (k : Option (Bool × Unit)) : Nat → Y3 → Y3 → Int → Option (Bool × Unit)
  | 0, _, _, _ => none
  | m + 1, a0, b1, i5 => zz66_b4 (zz66_l4 N k m) k a0 b1 i5
def zz66_F4 (N : Nat) (a0 : Y3) (b1 : Y3) (i5 : Int) : Option (Bool × Unit) := zz66_l4 N (zz66_a4) N a0 b1 i5
def zz66 (N : Nat) (a_0 : Y3) (b_1 : Y3) : Option (Bool × Unit) := zz66_s (zz66_F4 N) a_0 b_1
def S_zz66 : Sig := { a := (.pair (.sl (.sl I)) (.pair (.sl (.sl I)) .unit)), md := [0, 0], mf := [], m := .unit, r := .bool, rf := .i, f := fun x => zz66 big x.1 x.2.1 }
def A_zz66 : Cfg := mkCfg tab [(33, S_zz65)] [(8, [.as (.sl (.sl I)) .i, .as (.sl (.sl I)) .i, .drop, .drop, .drop, .as I .i]), (17, [])]
noncomputable def zz66_R4 (N n : Nat) (K : Ex → St → Option (Bool × Unit)) (a0 : Y3) (b1 : Y3) (i5 : Int) : Option (Bool × Unit) := iter ((A_zz66).shape 8) (run (A_zz66) N (codeAt Try.f11 [1, 1, 0, 1, 0, 0])) n ([.val (.sl (.sl I)) .i a0, .val (.sl (.sl I)) .i b1, .u, .u, .u, .val I .i i5] ++ List.replicate 21 .u) K
noncomputable abbrev zz66_z : Ex → St → Option (Bool × Unit) := finish (A_zz66) S_zz66 Try.f11.results.toList
noncomputable abbrev zz66_X4 (kX : St → Option (Bool × Unit)) : Option (Bool × Unit) := kX ([] ++ List.replicate 27 .u)
noncomputable abbrev zz66_E4 (kX : St → Option (Bool × Unit)) (kO : Nat → St → Option (Bool × Unit)) : Ex → St → Option (Bool × Unit) := exK zz66_z 0 ((A_zz66).shape 17) kX kO
theorem zz66_step4 (N : Nat) (m : Nat) (kX : St → Option (Bool × Unit)) (kO : Nat → St → Option (Bool × Unit)) (a0 : Y3) (b1 : Y3) (i5 : Int) : zz66_R4 N (m + 1) (zz66_E4 kX kO) a0 b1 i5 = zz66_b4 (zz66_R4 N m (zz66_E4 kX kO)) (zz66_X4 kX) a0 b1 i5 := by kernel_rfl
theorem zz66_iter4 (N : Nat) (kX : St → Option (Bool × Unit)) (kO : Nat → St → Option (Bool × Unit)) : ∀ (n : Nat) (a0 : Y3) (b1 : Y3) (i5 : Int), zz66_R4 N n (zz66_E4 kX kO) a0 b1 i5 = zz66_l4 N (zz66_X4 kX) n a0 b1 i5
  | 0, _, _, _ => rfl
  | m + 1, a0, b1, i5 => by
    have hrec : zz66_R4 N m (zz66_E4 kX kO) = (zz66_l4 N (zz66_X4 kX) m) := (funext fun a0 => (funext fun b1 => (funext fun i5 => zz66_iter4 N kX kO m a0 b1 i5)))
    refine (zz66_step4 N m kX kO a0 b1 i5).trans ?_
    rw [hrec]
    rfl
noncomputable abbrev zz66_K4 (N : Nat) : Ex → St → Option (Bool × Unit) := (blockK 0 (seqK ((A_zz66).shape 17) (run (A_zz66) N (codeAt Try.f11 [1, 1, 1])) zz66_z))
noncomputable abbrev zz66_k4 (N : Nat) : St → Option (Bool × Unit) := fun st' => run (A_zz66) N (codeAt Try.f11 [1, 1, 1]) st' zz66_z
theorem zz66_after4 (N : Nat) : zz66_X4 (zz66_k4 N) = zz66_a4 := by kernel_rfl
theorem zz66_in4 (N : Nat) (a0 : Y3) (b1 : Y3) (i5 : Int) : zz66_R4 N N (zz66_K4 N) a0 b1 i5 = zz66_F4 N a0 b1 i5 :=
  have h : zz66_X4 (zz66_k4 N) = (zz66_a4) := zz66_after4 N
  ((iter_ex (fun st => by kernel_rfl) (fun st => by kernel_rfl)).trans (zz66_iter4 N (zz66_k4 N) (fun j st => (zz66_K4 N) (.exit j) st) N a0 b1 i5)).trans (congrArg (fun k => zz66_l4 N k N a0 b1 i5) h)
theorem run0_zz66 (N : Nat) (x : (S_zz66).a.den) : runF (A_zz66) N Try.f11 S_zz66 x = (zz66_s (zz66_R4 N N (zz66_K4 N)) x.1 x.2.1) := by kernel_rfl
theorem run_zz66 (N : Nat) (x : (S_zz66).a.den) : runF (A_zz66) N Try.f11 S_zz66 x = zz66 N x.1 x.2.1 := by
  refine (run0_zz66 N x).trans ?_
  rw [(funext fun a0 => (funext fun b1 => (funext fun i5 => zz66_in4 N a0 b1 i5)))]
  rfl
theorem fn_zz66 : FnOk Try.prog 11 := ⟨_, Try.func11, by kernel_rfl, by kernel_rfl⟩
theorem good_zz66 : Gx.Good Try.prog 11 S_zz66 := good_of_run Try.func11 (of_decide_eq_true (by kernel_rfl)) fun x r h => ⟨A_zz66, big, mkCfg_ok tabOk, mkCfg_sigs (show SigsOk Try.prog [(33, S_zz65)] from ⟨⟨fn_zz65, good_zz65⟩, trivial⟩), (run_zz66 big x).trans h⟩

/-! zz67 -/
def zz67_s (a_0 : Y2) (b_1 : Y2) : Option (Bool × Unit) :=
  (zz66 big a_0.1 b_1.1).bind fun rq1 =>
  cond (!rq1.1)
  (some (false, (())))
  (some (true, (())))
def zz67 (a_0 : Y2) (b_1 : Y2) : Option (Bool × Unit) := zz67_s a_0 b_1
def S_zz67 : Sig := { a := (.pair (.pair (.sl (.sl I)) .unit) (.pair (.pair (.sl (.sl I)) .unit) .unit)), md := [0, 0], mf := [], m := .unit, r := .bool, rf := .i, f := fun x => zz67 x.1 x.2.1 }
def A_zz67 : Cfg := mkCfg tab [(11, S_zz66)] []
theorem run_zz67 (N : Nat) (x : (S_zz67).a.den) : runF (A_zz67) N Try.f12 S_zz67 x = zz67 x.1 x.2.1 := by kernel_rfl
theorem fn_zz67 : FnOk Try.prog 12 := ⟨_, Try.func12, by kernel_rfl, by kernel_rfl⟩
theorem good_zz67 : Gx.Good Try.prog 12 S_zz67 := good_of_run Try.func12 (of_decide_eq_true (by kernel_rfl)) fun x r h => ⟨A_zz67, big, mkCfg_ok tabOk, mkCfg_sigs (show SigsOk Try.prog [(11, S_zz66)] from ⟨⟨fn_zz66, good_zz66⟩, trivial⟩), (run_zz67 big x).trans h⟩

/-! zz68 -/
def zz68_b2 (rec : Y4 → Int → Int → Option Y6) (k : Y4 → Int → Option Y6) (a0 : Y4) (k1 : Int) (i5 : Int) : Option Y6 :=
  cond (decide (i5 < (a0.length : Int)))
  ((atI a0 i5).bind fun _ =>
  (a0[i5.toNat]?).bind fun xq1 =>
  rec (a0.set i5.toNat k1) (IntKind.i64.wrap (k1 + (1 : Int))) (IntKind.i64.wrap (i5 + (1 : Int))))
  (k a0 k1)
def zz68_a2 (a0 : Y4) (k1 : Int) : Option Y6 :=
  some (k1, (a0, ()))
def zz68_s (L2 : Y4 → Int → Int → Option Y6) (a_0 : Y4) (k_1 : Int) : Option Y6 :=
  L2 a_0 k_1 (0 : Int)
def zz68_l2 (N : Nat) (k : Y4 → Int → Option Y6) : Nat → Y4 → Int → Int → Option Y6
  | 0, _, _, _ => none
  | m + 1, a0, k1, i5 => zz68_b2 (zz68_l2 N k m) k a0 k1 i5
def zz68_F2 (N : Nat) (a0 : Y4) (k1 : Int) (i5 : Int) : Option Y6 := zz68_l2 N (zz68_a2) N a0 k1 i5
def zz68 (N : Nat) (a_0 : Y4) (k_1 : Int) : Option Y6 := zz68_s (zz68_F2 N) a_0 k_1
def S_zz68 : Sig := { a := (.pair (.sl I) (.pair I .unit)), md := [1, 0], mf := [(.o .i)], m := (.pair (.sl I) .unit), r := I, rf := .i, f := fun x => zz68 big x.1 x.2.1 }
def A_zz68 : Cfg := mkCfg tab [] [(4, [.as (.sl I) (.o .i), .as I .i, .drop, .drop, .drop, .as I .i]), (13, [.as (.sl I) (.o .i), .as I .i])]
noncomputable def zz68_R2 (N n : Nat) (K : Ex → St → Option Y6) (a0 : Y4) (k1 : Int) (i5 : Int) : Option Y6 := iter ((A_zz68).shape 4) (run (A_zz68) N (codeAt Try.f34 [1, 0, 1, 0, 0])) n ([.val (.sl I) (.o .i) a0, .val I .i k1, .u, .u, .u, .val I .i i5] ++ List.replicate 13 .u) K
noncomputable abbrev zz68_z : Ex → St → Option Y6 := finish (A_zz68) S_zz68 Try.f34.results.toList
noncomputable abbrev zz68_X2 (kX : St → Option Y6) : Y4 → Int → Option Y6 := fun (a0 : Y4) (k1 : Int) => kX ([.val (.sl I) (.o .i) a0, .val I .i k1] ++ List.replicate 17 .u)
noncomputable abbrev zz68_E2 (kX : St → Option Y6) (kO : Nat → St → Option Y6) : Ex → St → Option Y6 := exK zz68_z 0 ((A_zz68).shape 13) kX kO
theorem zz68_step2 (N : Nat) (m : Nat) (kX : St → Option Y6) (kO : Nat → St → Option Y6) (a0 : Y4) (k1 : Int) (i5 : Int) : zz68_R2 N (m + 1) (zz68_E2 kX kO) a0 k1 i5 = zz68_b2 (zz68_R2 N m (zz68_E2 kX kO)) (zz68_X2 kX) a0 k1 i5 := by kernel_rfl
theorem zz68_iter2 (N : Nat) (kX : St → Option Y6) (kO : Nat → St → Option Y6) : ∀ (n : Nat) (a0 : Y4) (k1 : Int) (i5 : Int), zz68_R2 N n (zz68_E2 kX kO) a0 k1 i5 = zz68_l2 N (zz68_X2 kX) n a0 k1 i5
  | 0, _, _, _ => rfl
  | m + 1, a0, k1, i5 => by
    have hrec : zz68_R2 N m (zz68_E2 kX kO) = (zz68_l2 N (zz68_X2 kX) m) := (funext fun a0 => (funext fun k1 => (funext fun i5 => zz68_iter2 N kX kO m a0 k1 i5)))
    refine (zz68_step2 N m kX kO a0 k1 i5).trans ?_
    rw [hrec]
    rfl
noncomputable abbrev zz68_K2 (N : Nat) : Ex → St → Option Y6 := (blockK 0 (seqK ((A_zz68).shape 13) (run (A_zz68) N (codeAt Try.f34 [1, 1])) zz68_z))
noncomputable abbrev zz68_k2 (N : Nat) : St → Option Y6 := fun st' => run (A_zz68) N (codeAt Try.f34 [1, 1]) st' zz68_z
theorem zz68_after2 (N : Nat) (a0 : Y4) (k1 : Int) : zz68_X2 (zz68_k2 N) a0 k1 = zz68_a2 a0 k1 := by kernel_rfl
theorem zz68_in2 (N : Nat) (a0 : Y4) (k1 : Int) (i5 : Int) : zz68_R2 N N (zz68_K2 N) a0 k1 i5 = zz68_F2 N a0 k1 i5 :=
  have h : zz68_X2 (zz68_k2 N) = (zz68_a2) := (funext fun a0 => (funext fun k1 => zz68_after2 N a0 k1))
  ((iter_ex (fun st => by kernel_rfl) (fun st => by kernel_rfl)).trans (zz68_iter2 N (zz68_k2 N) (fun j st => (zz68_K2 N) (.exit j) st) N a0 k1 i5)).trans (congrArg (fun k => zz68_l2 N k N a0 k1 i5) h)
theorem run0_zz68 (N : Nat) (x : (S_zz68).a.den) : runF (A_zz68) N Try.f34 S_zz68 x = (zz68_s (zz68_R2 N N (zz68_K2 N)) x.1 x.2.1) := by kernel_rfl
theorem run_zz68 (N : Nat) (x : (S_zz68).a.den) : runF (A_zz68) N Try.f34 S_zz68 x = zz68 N x.1 x.2.1 := by
  refine (run0_zz68 N x).trans ?_
  rw [(funext fun a0 => (funext fun k1 => (funext fun i5 => zz68_in2 N a0 k1 i5)))]
  rfl
theorem fn_zz68 : FnOk Try.prog 34 := ⟨_, Try.func34, by kernel_rfl, by kernel_rfl⟩
theorem good_zz68 : Gx.Good Try.prog 34 S_zz68 := good_of_run Try.func34 (of_decide_eq_true (by kernel_rfl)) fun x r h => ⟨A_zz68, big, mkCfg_ok tabOk, mkCfg_sigs (show SigsOk Try.prog [] from trivial), (run_zz68 big x).trans h⟩

/-! zz69 -/
def zz69_b2 (rec : Y3 → Int → Int → Option (Int × Y2)) (k : Y3 → Int → Option (Int × Y2)) (a0 : Y3) (k1 : Int) (i5 : Int) : Option (Int × Y2) :=
  cond (decide (i5 < (a0.length : Int)))
  ((atI a0 i5).bind fun _ =>
  (a0[i5.toNat]?).bind fun xq1 =>
  (a0[i5.toNat]?).bind fun xq2 =>
  (zz68 big xq2 k1).bind fun rq3 =>
  (a0[i5.toNat]?).bind fun xq4 =>
  (a0[i5.toNat]?).bind fun xq5 =>
  rec (a0.set i5.toNat rq3.2.1) rq3.1 (IntKind.i64.wrap (i5 + (1 : Int))))
  (k a0 k1)
def zz69_a2 (a0 : Y3) (k1 : Int) : Option (Int × Y2) :=
  some (k1, (a0, ()))
def zz69_s (L2 : Y3 → Int → Int → Option (Int × Y2)) (a_0 : Y3) (k_1 : Int) : Option (Int × Y2) :=
  L2 a_0 k_1 (0 : Int)
def zz69_l2 (N : Nat) (k : Y3 → Int → Option (Int × Y2)) : Nat → Y3 → Int → Int → Option (Int × Y2)
  | 0, _, _, _ => none
  | m + 1, a0, k1, i5 => zz69_b2 (zz69_l2 N k m) k a0 k1 i5
def zz69_F2 (N : Nat) (a0 : Y3) (k1 : Int) (i5 : Int) : Option (Int × Y2) := zz69_l2 N (zz69_a2) N a0 k1 i5
def zz69 (N : Nat) (a_0 : Y3) (k_1 : Int) : Option (Int × Y2) := zz69_s (zz69_F2 N) a_0 k_1
def S_zz69 : Sig := { a := (.pair (.sl (.sl I)) (.pair I .unit)), md := [1, 0], mf := [(.o (.o .i))], m := (.pair (.sl (.sl I)) .unit), r := I, rf := .i, f := fun x => zz69 big x.1 x.2.1 }
def A_zz69 : Cfg := mkCfg tab [(34, S_zz68)] [(4, [.as (.sl (.sl I)) (.o (.o .i)), .as I .i, .drop, .drop, .drop, .as I .i]), (11, [.as (.sl (.sl I)) (.o (.o .i)), .as I .i])]
noncomputable def zz69_R2 (N n : Nat) (K : Ex → St → Option (Int × Y2)) (a0 : Y3) (k1 : Int) (i5 : Int) : Option (Int × Y2) := iter ((A_zz69).shape 4) (run (A_zz69) N (codeAt Try.f14 [1, 0, 1, 0, 0])) n ([.val (.sl (.sl I)) (.o (.o .i)) a0, .val I .i k1, .u, .u, .u, .val I .i i5] ++ List.replicate 13 .u) K
noncomputable abbrev zz69_z : Ex → St → Option (Int × Y2) := finish (A_zz69) S_zz69 Try.f14.results.toList
noncomputable abbrev zz69_X2 (kX : St → Option (Int × Y2)) : Y3 → Int → Option (Int × Y2) := fun (a0 : Y3) (k1 : Int) => kX ([.val (.sl (.sl I)) (.o (.o .i)) a0, .val I .i k1] ++ List.replicate 17 .u)
noncomputable abbrev zz69_E2 (kX : St → Option (Int × Y2)) (kO : Nat → St → Option (Int × Y2)) : Ex → St → Option (Int × Y2) := exK zz69_z 0 ((A_zz69).shape 11) kX kO
theorem zz69_step2 (N : Nat) (m : Nat) (kX : St → Option (Int × Y2)) (kO : Nat → St → Option (Int × Y2)) (a0 : Y3) (k1 : Int) (i5 : Int) : zz69_R2 N (m + 1) (zz69_E2 kX kO) a0 k1 i5 = zz69_b2 (zz69_R2 N m (zz69_E2 kX kO)) (zz69_X2 kX) a0 k1 i5 := by kernel_rfl
theorem zz69_iter2 (N : Nat) (kX : St → Option (Int × Y2)) (kO : Nat → St → Option (Int × Y2)) : ∀ (n : Nat) (a0 : Y3) (k1 : Int) (i5 : Int), zz69_R2 N n (zz69_E2 kX kO) a0 k1 i5 = zz69_l2 N (zz69_X2 kX) n a0 k1 i5
  | 0, _, _, _ => rfl
  | m + 1, a0, k1, i5 => by
    have hrec : zz69_R2 N m (zz69_E2 kX kO) = (zz69_l2 N (zz69_X2 kX) m) := (funext fun a0 => (funext fun k1 => (funext fun i5 => zz69_iter2 N kX kO m a0 k1 i5)))
    refine (zz69_step2 N m kX kO a0 k1 i5).trans ?_
    rw [hrec]
    rfl
noncomputable abbrev zz69_K2 (N : Nat) : Ex → St → Option (Int × Y2) := (blockK 0 (seqK ((A_zz69).shape 11) (run (A_zz69) N (codeAt Try.f14 [1, 1])) zz69_z))
noncomputable abbrev zz69_k2 (N : Nat) : St → Option (Int × Y2) := fun st' => run (A_zz69) N (codeAt Try.f14 [1, 1]) st' zz69_z
theorem zz69_after2 (N : Nat) (a0 : Y3) (k1 : Int) : zz69_X2 (zz69_k2 N) a0 k1 = zz69_a2 a0 k1 := by kernel_rfl
theorem zz69_in2 (N : Nat) (a0 : Y3) (k1 : Int) (i5 : Int) : zz69_R2 N N (zz69_K2 N) a0 k1 i5 = zz69_F2 N a0 k1 i5 :=
  have h : zz69_X2 (zz69_k2 N) = (zz69_a2) := (funext fun a0 => (funext fun k1 => zz69_after2 N a0 k1))
  ((iter_ex (fun st => by kernel_rfl) (fun st => by kernel_rfl)).trans (zz69_iter2 N (zz69_k2 N) (fun j st => (zz69_K2 N) (.exit j) st) N a0 k1 i5)).trans (congrArg (fun k => zz69_l2 N k N a0 k1 i5) h)
theorem run0_zz69 (N : Nat) (x : (S_zz69).a.den) : runF (A_zz69) N Try.f14 S_zz69 x = (zz69_s (zz69_R2 N N (zz69_K2 N)) x.1 x.2.1) := by kernel_rfl
theorem run_zz69 (N : Nat) (x : (S_zz69).a.den) : runF (A_zz69) N Try.f14 S_zz69 x = zz69 N x.1 x.2.1 := by
  refine (run0_zz69 N x).trans ?_
  rw [(funext fun a0 => (funext fun k1 => (funext fun i5 => zz69_in2 N a0 k1 i5)))]
  rfl
theorem fn_zz69 : FnOk Try.prog 14 := ⟨_, Try.func14, by kernel_rfl, by kernel_rfl⟩
theorem good_zz69 : Gx.Good Try.prog 14 S_zz69 := good_of_run Try.func14 (of_decide_eq_true (by kernel_rfl)) fun x r h => ⟨A_zz69, big, mkCfg_ok tabOk, mkCfg_sigs (show SigsOk Try.prog [(34, S_zz68)] from ⟨⟨fn_zz68, good_zz68⟩, trivial⟩), (run_zz69 big x).trans h⟩

/-! zz70 -/
def zz70 (a_0 : Y2) (k_1 : Int) : Option (Int × (Y2 × Unit)) := (zz69 big a_0.1 k_1).bind fun r => some (r.1, ((r.2.1, ()), ()))
def S_zz70 : Sig := { a := (.pair (.pair (.sl (.sl I)) .unit) (.pair I .unit)), md := [1, 0], mf := [(.p (.o (.o .i)) .i)], m := (.pair (.pair (.sl (.sl I)) .unit) .unit), r := I, rf := .i, f := fun x => zz70 x.1 x.2.1 }
theorem fn_zz70 : FnOk Try.prog 13 := ⟨_, Try.func13, by kernel_rfl, by kernel_rfl⟩
theorem good_zz70 : Gx.Good Try.prog 13 S_zz70   := good_bx1 (A := mkCfg tab [] []) (T := 28) (TS := 22) (mkCfg_ok tabOk) Try.func13 (by kernel_rfl) (by kernel_rfl) fn_zz69 (by kernel_rfl) (by kernel_rfl) good_zz69

/-! zz71 -/
def zz71_b2 (rec : Y4 → Int → Int → Option (Int × Unit)) (k : Int → Option (Int × Unit)) (a0 : Y4) (k1 : Int) (i5 : Int) : Option (Int × Unit) :=
  cond (decide (i5 < (a0.length : Int)))
  ((atI a0 i5).bind fun xq1 =>
  cond (decide (xq1 ≠ k1))
  (some ((-1 : Int), (())))
  (rec a0 (IntKind.i64.wrap (k1 + (1 : Int))) (IntKind.i64.wrap (i5 + (1 : Int)))))
  (k k1)
def zz71_a2 (k1 : Int) : Option (Int × Unit) :=
  some (k1, (()))
def zz71_s (L2 : Y4 → Int → Int → Option (Int × Unit)) (a_0 : Y4) (k_1 : Int) : Option (Int × Unit) :=
  L2 a_0 k_1 (0 : Int)
def zz71_l2 (N : Nat) (k : Int → Option (Int × Unit)) : Nat → Y4 → Int → Int → Option (Int × Unit)
  | 0, _, _, _ => none
  | m + 1, a0, k1, i5 => zz71_b2 (zz71_l2 N k m) k a0 k1 i5
def zz71_F2 (N : Nat) (a0 : Y4) (k1 : Int) (i5 : Int) : Option (Int × Unit) := zz71_l2 N (zz71_a2) N a0 k1 i5
def zz71 (N : Nat) (a_0 : Y4) (k_1 : Int) : Option (Int × Unit) := zz71_s (zz71_F2 N) a_0 k_1
def S_zz71 : Sig := { a := (.pair (.sl I) (.pair I .unit)), md := [0, 0], mf := [], m := .unit, r := I, rf := .i, f := fun x => zz71 big x.1 x.2.1 }
def A_zz71 : Cfg := mkCfg tab [] [(4, [.as (.sl I) .i, .as I .i, .drop, .drop, .drop, .as I .i]), (15, [.drop, .as I .i])]
noncomputable def zz71_R2 (N n : Nat) (K : Ex → St → Option (Int × Unit)) (a0 : Y4) (k1 : Int) (i5 : Int) : Option (Int × Unit) := iter ((A_zz71).shape 4) (run (A_zz71) N (codeAt Try.f35 [1, 0, 1, 0, 0])) n ([.val (.sl I) .i a0, .val I .i k1, .u, .u, .u, .val I .i i5] ++ List.replicate 15 .u) K
noncomputable abbrev zz71_z : Ex → St → Option (Int × Unit) := finish (A_zz71) S_zz71 Try.f35.results.toList
noncomputable abbrev zz71_X2 (kX : St → Option (Int × Unit)) : Int → Option (Int × Unit) := fun (k1 : Int) => kX ([.u, .val I .i k1] ++ List.replicate 19 .u)
noncomputable abbrev zz71_E2 (kX : St → Option (Int × Unit)) (kO : Nat → St → Option (Int × Unit)) : Ex → St → Option (Int × Unit) := exK zz71_z 0 ((A_zz71).shape 15) kX kO
theorem zz71_step2 (N : Nat) (m : Nat) (kX : St → Option (Int × Unit)) (kO : Nat → St → Option (Int × Unit)) (a0 : Y4) (k1 : Int) (i5 : Int) : zz71_R2 N (m + 1) (zz71_E2 kX kO) a0 k1 i5 = zz71_b2 (zz71_R2 N m (zz71_E2 kX kO)) (zz71_X2 kX) a0 k1 i5 := by kernel_rfl
theorem zz71_iter2 (N : Nat) (kX : St → Option (Int × Unit)) (kO : Nat → St → Option (Int × Unit)) : ∀ (n : Nat) (a0 : Y4) (k1 : Int) (i5 : Int), zz71_R2 N n (zz71_E2 kX kO) a0 k1 i5 = zz71_l2 N (zz71_X2 kX) n a0 k1 i5
  | 0, _, _, _ => rfl
  | m + 1, a0, k1, i5 => by
    have hrec : zz71_R2 N m (zz71_E2 kX kO) = (zz71_l2 N (zz71_X2 kX) m) := (funext fun a0 => (funext fun k1 => (funext fun i5 => zz71_iter2 N kX kO m a0 k1 i5)))
    refine (zz71_step2 N m kX kO a0 k1 i5).trans ?_
    rw [hrec]
    rfl
noncomputable abbrev zz71_K2 (N : Nat) : Ex → St → Option (Int × Unit) := (blockK 0 (seqK ((A_zz71).shape 15) (run (A_zz71) N (codeAt Try.f35 [1, 1])) zz71_z))
noncomputable abbrev zz71_k2 (N : Nat) : St → Option (Int × Unit) := fun st' => run (A_zz71) N (codeAt Try.f35 [1, 1]) st' zz71_z
theorem zz71_after2 (N : Nat) (k1 : Int) : zz71_X2 (zz71_k2 N) k1 = zz71_a2 k1 := by kernel_rfl
theorem zz71_in2 (N : Nat) (a0 : Y4) (k1 : Int) (i5 : Int) : zz71_R2 N N (zz71_K2 N) a0 k1 i5 = zz71_F2 N a0 k1 i5 :=
  have h : zz71_X2 (zz71_k2 N) = (zz71_a2) := (funext fun k1 => zz71_after2 N k1)
  ((iter_ex (fun st => by kernel_rfl) (fun st => by kernel_rfl)).trans (zz71_iter2 N (zz71_k2 N) (fun j st => (zz71_K2 N) (.exit j) st) N a0 k1 i5)).trans (congrArg (fun k => zz71_l2 N k N a0 k1 i5) h)
theorem run0_zz71 (N : Nat) (x : (S_zz71).a.den) : runF (A_zz71) N Try.f35 S_zz71 x = (zz71_s (zz71_R2 N N (zz71_K2 N)) x.1 x.2.1) := by kernel_rfl
theorem run_zz71 (N : Nat) (x : (S_zz71).a.den) : runF (A_zz71) N Try.f35 S_zz71 x = zz71 N x.1 x.2.1 := by
  refine (run0_zz71 N x).trans ?_
  rw [(funext fun a0 => (funext fun k1 => (funext fun i5 => zz71_in2 N a0 k1 i5)))]
  rfl
theorem fn_zz71 : FnOk Try.prog 35 := ⟨_, Try.func35, by kernel_rfl, by kernel_rfl⟩
theorem good_zz71 : Gx.Good Try.prog 35 S_zz71 := good_of_run Try.func35 (of_decide_eq_true (by kernel_rfl)) fun x r h => ⟨A_zz71, big, mkCfg_ok tabOk, mkCfg_sigs (show SigsOk Try.prog [] from trivial), (run_zz71 big x).trans h⟩

/-! zz72 -/
def zz72_b2 (rec : Y3 → Int → Int → Option (Int × Unit)) (k : Int → Option (Int × Unit)) (a0 : Y3) (k1 : Int) (i5 : Int) : Option (Int × Unit) :=
  cond (decide (i5 < (a0.length : Int)))
  ((atI a0 i5).bind fun xq1 =>
  (zz71 big xq1 k1).bind fun rq2 =>
  cond (decide (rq2.1 < (0 : Int)))
  (some ((-1 : Int), (())))
  (rec a0 rq2.1 (IntKind.i64.wrap (i5 + (1 : Int)))))
  (k k1)
def zz72_a2 (k1 : Int) : Option (Int × Unit) :=
  some (k1, (()))
def zz72_s (L2 : Y3 → Int → Int → Option (Int × Unit)) (a_0 : Y3) (k_1 : Int) : Option (Int × Unit) :=
  L2 a_0 k_1 (0 : Int)
def zz72_l2 (N : Nat) (k : Int → Option (Int × Unit)) : Nat → Y3 → Int → Int → Option (Int × Unit)
  | 0, _, _, _ => none
  | m + 1, a0, k1, i5 => zz72_b2 (zz72_l2 N k m) k a0 k1 i5
def zz72_F2 (N : Nat) (a0 : Y3) (k1 : Int) (i5 : Int) : Option (Int × Unit) := zz72_l2 N (zz72_a2) N a0 k1 i5
def zz72 (N : Nat) (a_0 : Y3) (k_1 : Int) : Option (Int × Unit) := zz72_s (zz72_F2 N) a_0 k_1
def S_zz72 : Sig := { a := (.pair (.sl (.sl I)) (.pair I .unit)), md := [0, 0], mf := [], m := .unit, r := I, rf := .i, f := fun x => zz72 big x.1 x.2.1 }
def A_zz72 : Cfg := mkCfg tab [(35, S_zz71)] [(4, [.as (.sl (.sl I)) .i, .as I .i, .drop, .drop, .drop, .as I .i]), (15, [.drop, .as I .i])]
noncomputable def zz72_R2 (N n : Nat) (K : Ex → St → Option (Int × Unit)) (a0 : Y3) (k1 : Int) (i5 : Int) : Option (Int × Unit) := iter ((A_zz72).shape 4) (run (A_zz72) N (codeAt Try.f15 [1, 0, 1, 0, 0])) n ([.val (.sl (.sl I)) .i a0, .val I .i k1, .u, .u, .u, .val I .i i5] ++ List.replicate 15 .u) K
noncomputable abbrev zz72_z : Ex → St → Option (Int × Unit) := finish (A_zz72) S_zz72 Try.f15.results.toList
noncomputable abbrev zz72_X2 (kX : St → Option (Int × Unit)) : Int → Option (Int × Unit) := fun (k1 : Int) => kX ([.u, .val I .i k1] ++ List.replicate 19 .u)
noncomputable abbrev zz72_E2 (kX : St → Option (Int × Unit)) (kO : Nat → St → Option (Int × Unit)) : Ex → St → Option (Int × Unit) := exK zz72_z 0 ((A_zz72).shape 15) kX kO
theorem zz72_step2 (N : Nat) (m : Nat) (kX : St → Option (Int × Unit)) (kO : Nat → St → Option (Int × Unit)) (a0 : Y3) (k1 : Int) (i5 : Int) : zz72_R2 N (m + 1) (zz72_E2 kX kO) a0 k1 i5 = zz72_b2 (zz72_R2 N m (zz72_E2 kX kO)) (zz72_X2 kX) a0 k1 i5 := by kernel_rfl
theorem zz72_iter2 (N : Nat) (kX : St → Option (Int × Unit)) (kO : Nat → St → Option (Int × Unit)) : ∀ (n : Nat) (a0 : Y3) (k1 : Int) (i5 : Int), zz72_R2 N n (zz72_E2 kX kO) a0 k1 i5 = zz72_l2 N (zz72_X2 kX) n a0 k1 i5
  | 0, _, _, _ => rfl
  | m + 1, a0, k1, i5 => by
    have hrec : zz72_R2 N m (zz72_E2 kX kO) = (zz72_l2 N (zz72_X2 kX) m) := (funext fun a0 => (funext fun k1 => (funext fun i5 => zz72_iter2 N kX kO m a0 k1 i5)))
    refine (zz72_step2 N m kX kO a0 k1 i5).trans ?_
    rw [hrec]
    rfl
noncomputable abbrev zz72_K2 (N : Nat) : Ex → St → Option (Int × Unit) := (blockK 0 (seqK ((A_zz72).shape 15) (run (A_zz72) N (codeAt Try.f15 [1, 1])) zz72_z))
noncomputable abbrev zz72_k2 (N : Nat) : St → Option (Int × Unit) := fun st' => run (A_zz72) N (codeAt Try.f15 [1, 1]) st' zz72_z
theorem zz72_after2 (N : Nat) (k1 : Int) : zz72_X2 (zz72_k2 N) k1 = zz72_a2 k1 := by kernel_rfl
theorem zz72_in2 (N : Nat) (a0 : Y3) (k1 : Int) (i5 : Int) : zz72_R2 N N (zz72_K2 N) a0 k1 i5 = zz72_F2 N a0 k1 i5 :=
  have h : zz72_X2 (zz72_k2 N) = (zz72_a2) := (funext fun k1 => zz72_after2 N k1)
  ((iter_ex (fun st => by kernel_rfl) (fun st => by kernel_rfl)).trans (zz72_iter2 N (zz72_k2 N) (fun j st => (zz72_K2 N) (.exit j) st) N a0 k1 i5)).trans (congrArg (fun k => zz72_l2 N k N a0 k1 i5) h)
theorem run0_zz72 (N : Nat) (x : (S_zz72).a.den) : runF (A_zz72) N Try.f15 S_zz72 x = (zz72_s (zz72_R2 N N (zz72_K2 N)) x.1 x.2.1) := by kernel_rfl
theorem run_zz72 (N : Nat) (x : (S_zz72).a.den) : runF (A_zz72) N Try.f15 S_zz72 x = zz72 N x.1 x.2.1 := by
  refine (run0_zz72 N x).trans ?_
  rw [(funext fun a0 => (funext fun k1 => (funext fun i5 => zz72_in2 N a0 k1 i5)))]
  rfl
theorem fn_zz72 : FnOk Try.prog 15 := ⟨_, Try.func15, by kernel_rfl, by kernel_rfl⟩
theorem good_zz72 : Gx.Good Try.prog 15 S_zz72 := good_of_run Try.func15 (of_decide_eq_true (by kernel_rfl)) fun x r h => ⟨A_zz72, big, mkCfg_ok tabOk, mkCfg_sigs (show SigsOk Try.prog [(35, S_zz71)] from ⟨⟨fn_zz71, good_zz71⟩, trivial⟩), (run_zz72 big x).trans h⟩

/-! laws_FnExactBooleanSubs -/
def laws_FnExactBooleanSubs_s (aP_0 : Y2) : Option (Bool × Unit) :=
  (zz2 aP_0 (1048576 : Int)).bind fun rq1 =>
  cond (decide (rq1.1 < (0 : Int)))
  (some (true, (())))
  ((zz5 aP_0).bind fun rq2 =>
  (zz29 big rq2.1).bind fun rq3 =>
  (zz5 aP_0).bind fun rq4 =>
  (zz64 big rq4.1).bind fun rq5 =>
  (zz66 big rq5.1.1 rq3.1.1).bind fun rq6 =>
  cond (!rq6.1)
  (some (false, (())))
  (cond (((((), rq5.1.2).2).1) != rq3.1.2.1)
  (some (false, (())))
  ((zz5 aP_0).bind fun rq7 =>
  (zz67 rq4.1 rq7.1).bind fun rq8 =>
  cond (!rq8.1)
  (some (false, (())))
  ((zz70 rq4.1 (1 : Int)).bind fun rq9 =>
  cond (decide (rq9.1 < (0 : Int)))
  (some (false, (())))
  ((zz66 big rq5.1.1 rq3.1.1).bind fun rq10 =>
  cond (!rq10.1)
  (some (false, (())))
  (cond (((((), rq5.1.2).2).1) != rq3.1.2.1)
  (some (false, (())))
  ((zz69 big rq5.1.1 (1 : Int)).bind fun rq11 =>
  (zz72 big rq11.2.1 (1 : Int)).bind fun rq12 =>
  cond (decide (rq12.1 < (0 : Int)))
  (some (false, (())))
  (cond (decide (rq12.1 ≠ rq11.1))
  (some (false, (())))
  ((zz5 aP_0).bind fun rq13 =>
  (zz64 big rq13.1).bind fun rq14 =>
  (zz66 big rq14.1.1 rq3.1.1).bind fun rq15 =>
  cond (!rq15.1)
  (some (false, (())))
  (cond (((((), rq14.1.2).2).1) != rq3.1.2.1)
  (some (false, (())))
  ((zz72 big rq11.2.1 (1 : Int)).bind fun rq16 =>
  cond (decide (rq16.1 < (0 : Int)))
  (some (false, (())))
  (cond (decide (rq16.1 ≠ rq11.1))
  (some (false, (())))
  (some (true, (())))))))))))))))
def laws_FnExactBooleanSubs (aP_0 : Y2) : Option (Bool × Unit) := laws_FnExactBooleanSubs_s aP_0
def S_laws_FnExactBooleanSubs : Sig := { a := (.pair (.pair (.sl (.sl I)) .unit) .unit), md := [0], mf := [], m := .unit, r := .bool, rf := .i, f := fun x => laws_FnExactBooleanSubs x.1 }
def A_laws_FnExactBooleanSubs : Cfg := mkCfg tab [(7, S_zz2), (9, S_zz5), (16, S_zz29), (17, S_zz64), (11, S_zz66), (12, S_zz67), (13, S_zz70), (14, S_zz69), (15, S_zz72)] []
theorem run_laws_FnExactBooleanSubs (N : Nat) (x : (S_laws_FnExactBooleanSubs).a.den) : runF (A_laws_FnExactBooleanSubs) N Try.f4 S_laws_FnExactBooleanSubs x = laws_FnExactBooleanSubs x.1 := by kernel_rfl
theorem fn_laws_FnExactBooleanSubs : FnOk Try.prog 4 := ⟨_, Try.func4, by kernel_rfl, by kernel_rfl⟩
theorem good_laws_FnExactBooleanSubs : Gx.Good Try.prog 4 S_laws_FnExactBooleanSubs := good_of_run Try.func4 (of_decide_eq_true (by kernel_rfl)) fun x r h => ⟨A_laws_FnExactBooleanSubs, big, mkCfg_ok tabOk, mkCfg_sigs (show SigsOk Try.prog [(7, S_zz2), (9, S_zz5), (16, S_zz29), (17, S_zz64), (11, S_zz66), (12, S_zz67), (13, S_zz70), (14, S_zz69), (15, S_zz72)] from ⟨⟨fn_zz2, good_zz2⟩, ⟨fn_zz5, good_zz5⟩, ⟨fn_zz29, good_zz29⟩, ⟨fn_zz64, good_zz64⟩, ⟨fn_zz66, good_zz66⟩, ⟨fn_zz67, good_zz67⟩, ⟨fn_zz70, good_zz70⟩, ⟨fn_zz69, good_zz69⟩, ⟨fn_zz72, good_zz72⟩, trivial⟩), (run_laws_FnExactBooleanSubs big x).trans h⟩
end
end Go.Proofs.Ytlndlclemhfekaa
