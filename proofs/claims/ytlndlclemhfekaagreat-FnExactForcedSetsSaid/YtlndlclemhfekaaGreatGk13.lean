import Derived.Test.YtlndlclemhfekaaGreatVk13
set_option maxRecDepth 100000
set_option linter.unusedVariables false
namespace Go.Proofs.YtlndlclemhfekaaGreat
open Go Go.Gx Go.Proofs
noncomputable section

/-! zz74 -/
def zz74_b7 (rec : Y1 → Y4 → Y3 → Int → Z4) (k : Y3 → Z4) (l4 : Y1) (places6 : Y4) (list7 : Y3) (mask8 : Int) : Z4 :=
  (shlI IntKind.i64 (1 : Int) (places6.length : Int)).bind fun xq3 =>
  cond (decide (mask8 < xq3))
  ((zz57 big mask8).bind fun rq4 =>
  (zz58 big rq4.1 places6).bind fun rq5 =>
  (zz73 big l4 rq5.1).bind fun rq6 =>
  cond rq6.1
  ((appI list7 [rq5.1]).bind fun xq7 =>
  rec l4 places6 xq7 (IntKind.i64.wrap (mask8 + (1 : Int))))
  (rec l4 places6 list7 (IntKind.i64.wrap (mask8 + (1 : Int)))))
  (k list7)
def zz74_a7 (list7 : Y3) : Z4 :=
  (impl_sortRows_k_compareTerms list7 ()).bind fun rq8 =>
  some ((rq8.2.1, true, ()), (()))
def zz74_s (L7 : Y1 → Y4 → Y3 → Int → Z4) (p_0 : Y2) : Z4 :=
  (zz48 p_0).bind fun rq1 =>
  cond (!rq1.1.2.1)
  (some (([], false, ()), (())))
  ((zz56 rq1.1.1).bind fun rq2 =>
  L7 rq1.1.1 rq2.1 [] (0 : Int))
def zz74_l7 (N : Nat) (k : Y3 → Z4) : Nat → Y1 → Y4 → Y3 → Int → Z4
  | 0, _, _, _, _ => none
  | m + 1, l4, places6, list7, mask8 => zz74_b7 (zz74_l7 N k m) k l4 places6 list7 mask8
def zz74_F7 (N : Nat) (l4 : Y1) (places6 : Y4) (list7 : Y3) (mask8 : Int) : Z4 := zz74_l7 N (zz74_a7) N l4 places6 list7 mask8
def zz74 (N : Nat) (p_0 : Y2) : Z4 := zz74_s (zz74_F7 N) p_0
def S_zz74 : Sig := { a := (.pair (.pair (.sl (.sl I)) .unit) .unit), md := [0], mf := [], m := .unit, r := (.tup (.pair (.sl (.sl I)) (.pair .bool .unit))), rf := (.p (.o (.o .i)) .i), f := fun x => zz74 big x.1 }
def A_zz74 : Cfg := mkCfg tab [(17, S_zz48), (18, S_zz56), (20, S_zz57), (19, S_zz58), (21, S_zz73), (22, S_impl_sortRows_k_compareTerms)] [(14, [.drop, .drop, .drop, .drop, .as (.opt (.pair (.sl (.sl .bool)) (.pair (.sl (.sl I)) (.pair (.sl (.sl I)) .unit)))) .i, .drop, .as (.sl I) (.o .i), .as (.sl (.sl I)) (.o (.o .i)), .as I .i]), (25, [.drop, .drop, .drop, .drop, .drop, .drop, .drop, .as (.sl (.sl I)) (.o (.o .i))])]
noncomputable def zz74_R7 (N n : Nat) (K : Ex → St → Z4) (l4 : Y1) (places6 : Y4) (list7 : Y3) (mask8 : Int) : Z4 := iter ((A_zz74).shape 14) (run (A_zz74) N (codeAt Tryz.f7 [1, 1, 1, 1, 1, 0, 1, 0, 0])) n ([.u, .u, .u, .u, .val (.opt (.pair (.sl (.sl .bool)) (.pair (.sl (.sl I)) (.pair (.sl (.sl I)) .unit)))) .i l4, .u, .val (.sl I) (.o .i) places6, .val (.sl (.sl I)) (.o (.o .i)) list7, .val I .i mask8] ++ List.replicate 33 .u) K
noncomputable abbrev zz74_z : Ex → St → Z4 := finish (A_zz74) S_zz74 Tryz.f7.results.toList
noncomputable abbrev zz74_X7 (kX : St → Z4) : Y3 → Z4 := fun (list7 : Y3) => kX ([.u, .u, .u, .u, .u, .u, .u, .val (.sl (.sl I)) (.o (.o .i)) list7] ++ List.replicate 34 .u)
noncomputable abbrev zz74_E7 (kX : St → Z4) (kO : Nat → St → Z4) : Ex → St → Z4 := exK zz74_z 0 ((A_zz74).shape 25) kX kO
theorem zz74_step7 (N m : Nat) (kX : St → Z4) (kO : Nat → St → Z4) (l4 : Y1) (places6 : Y4) (list7 : Y3) (mask8 : Int) : zz74_R7 N (m + 1) (zz74_E7 kX kO) l4 places6 list7 mask8 = zz74_b7 (zz74_R7 N m (zz74_E7 kX kO)) (zz74_X7 kX) l4 places6 list7 mask8 := by kernel_rfl
theorem zz74_iter7 (N : Nat) (kX : St → Z4) (kO : Nat → St → Z4) : ∀ (n : Nat) (l4 : Y1) (places6 : Y4) (list7 : Y3) (mask8 : Int), zz74_R7 N n (zz74_E7 kX kO) l4 places6 list7 mask8 = zz74_l7 N (zz74_X7 kX) n l4 places6 list7 mask8
  | 0, _, _, _, _ => rfl
  | m + 1, l4, places6, list7, mask8 => by
    have hrec : zz74_R7 N m (zz74_E7 kX kO) = (zz74_l7 N (zz74_X7 kX) m) := (funext fun l4 => (funext fun places6 => (funext fun list7 => (funext fun mask8 => zz74_iter7 N kX kO m l4 places6 list7 mask8))))
    refine (zz74_step7 N m kX kO l4 places6 list7 mask8).trans ?_
    rw [hrec]
    rfl
noncomputable abbrev zz74_K7 (N : Nat) : Ex → St → Z4 := (blockK 0 (seqK ((A_zz74).shape 25) (run (A_zz74) N (codeAt Tryz.f7 [1, 1, 1, 1, 1, 1])) zz74_z))
noncomputable abbrev zz74_k7 (N : Nat) : St → Z4 := fun st' => run (A_zz74) N (codeAt Tryz.f7 [1, 1, 1, 1, 1, 1]) st' zz74_z
theorem zz74_after7 (N : Nat) (list7 : Y3) : zz74_X7 (zz74_k7 N) list7 = zz74_a7 list7 := by kernel_rfl
theorem zz74_in7 (N : Nat) (l4 : Y1) (places6 : Y4) (list7 : Y3) (mask8 : Int) : zz74_R7 N N (zz74_K7 N) l4 places6 list7 mask8 = zz74_F7 N l4 places6 list7 mask8 :=
  have h : zz74_X7 (zz74_k7 N) = (zz74_a7) := (funext fun list7 => zz74_after7 N list7)
  ((iter_ex (fun st => by kernel_rfl) (fun st => by kernel_rfl)).trans (zz74_iter7 N (zz74_k7 N) (fun j st => (zz74_K7 N) (.exit j) st) N l4 places6 list7 mask8)).trans (congrArg (fun k => zz74_l7 N k N l4 places6 list7 mask8) h)
theorem run0_zz74 (N : Nat) (x : (S_zz74).a.den) : runF (A_zz74) N Tryz.f7 S_zz74 x = (zz74_s (zz74_R7 N N (zz74_K7 N)) x.1) := by kernel_rfl
theorem run_zz74 (N : Nat) (x : (S_zz74).a.den) : runF (A_zz74) N Tryz.f7 S_zz74 x = zz74 N x.1 := by
  refine (run0_zz74 N x).trans ?_
  rw [(funext fun l4 => (funext fun places6 => (funext fun list7 => (funext fun mask8 => zz74_in7 N l4 places6 list7 mask8))))]
  rfl
theorem fn_zz74 : FnOk Tryz.prog 7 := ⟨_, Tryz.func7, by kernel_rfl, by kernel_rfl⟩
theorem good_zz74 : Gx.Good Tryz.prog 7 S_zz74 := good_of_run Tryz.func7 (of_decide_eq_true (by kernel_rfl)) fun x r h => ⟨A_zz74, big, mkCfg_ok tabOk, mkCfg_sigs (show SigsOk Tryz.prog [(17, S_zz48), (18, S_zz56), (20, S_zz57), (19, S_zz58), (21, S_zz73), (22, S_impl_sortRows_k_compareTerms)] from ⟨⟨fn_zz48, good_zz48⟩, ⟨fn_zz56, good_zz56⟩, ⟨fn_zz57, good_zz57⟩, ⟨fn_zz58, good_zz58⟩, ⟨fn_zz73, good_zz73⟩, ⟨fn_impl_sortRows_k_compareTerms, good_impl_sortRows_k_compareTerms⟩, trivial⟩), (run_zz74 big x).trans h⟩

/-! zz75 -/
def zz75_b4 (rec : Y4 → Y4 → Int → Z0) (k : Z0) (a0 b1 : Y4) (i5 : Int) : Z0 :=
  cond (decide (i5 < (a0.length : Int)))
  ((atI a0 i5).bind fun xq1 =>
  (atI b1 i5).bind fun xq2 =>
  cond (decide (xq1 ≠ xq2))
  (some (false, (())))
  (rec a0 b1 (IntKind.i64.wrap (i5 + (1 : Int)))))
  (k)
def zz75_a4 : Z0 :=
  some (true, (()))
def zz75_s (L4 : Y4 → Y4 → Int → Z0) (a_0 b_1 : Y4) : Z0 :=
  cond (decide ((a_0.length : Int) ≠ (b_1.length : Int)))
  (some (false, (())))
  (L4 a_0 b_1 (0 : Int))
def zz75_l4 (N : Nat) (k : Z0) : Nat → Y4 → Y4 → Int → Z0
  | 0, _, _, _ => none
  | m + 1, a0, b1, i5 => zz75_b4 (zz75_l4 N k m) k a0 b1 i5
def zz75_F4 (N : Nat) (a0 b1 : Y4) (i5 : Int) : Z0 := zz75_l4 N (zz75_a4) N a0 b1 i5
def zz75 (N : Nat) (a_0 b_1 : Y4) : Z0 := zz75_s (zz75_F4 N) a_0 b_1
def S_zz75 : Sig := { a := (.pair (.sl I) (.pair (.sl I) .unit)), md := [0, 0], mf := [], m := .unit, r := .bool, rf := .i, f := fun x => zz75 big x.1 x.2.1 }
def A_zz75 : Cfg := mkCfg tab [] [(8, [.as (.sl I) .i, .as (.sl I) .i, .drop, .drop, .drop, .as I .i]), (17, [])]
noncomputable def zz75_R4 (N n : Nat) (K : Ex → St → Z0) (a0 b1 : Y4) (i5 : Int) : Z0 := iter ((A_zz75).shape 8) (run (A_zz75) N (codeAt Tryz.f24 [1, 1, 0, 1, 0, 0])) n ([.val (.sl I) .i a0, .val (.sl I) .i b1, .u, .u, .u, .val I .i i5] ++ List.replicate 20 .u) K
noncomputable abbrev zz75_z : Ex → St → Z0 := finish (A_zz75) S_zz75 Tryz.f24.results.toList
noncomputable abbrev zz75_X4 (kX : St → Z0) : Z0 := kX ([] ++ List.replicate 26 .u)
noncomputable abbrev zz75_E4 (kX : St → Z0) (kO : Nat → St → Z0) : Ex → St → Z0 := exK zz75_z 0 ((A_zz75).shape 17) kX kO
theorem zz75_step4 (N m : Nat) (kX : St → Z0) (kO : Nat → St → Z0) (a0 b1 : Y4) (i5 : Int) : zz75_R4 N (m + 1) (zz75_E4 kX kO) a0 b1 i5 = zz75_b4 (zz75_R4 N m (zz75_E4 kX kO)) (zz75_X4 kX) a0 b1 i5 := by kernel_rfl
theorem zz75_iter4 (N : Nat) (kX : St → Z0) (kO : Nat → St → Z0) : ∀ (n : Nat) (a0 b1 : Y4) (i5 : Int), zz75_R4 N n (zz75_E4 kX kO) a0 b1 i5 = zz75_l4 N (zz75_X4 kX) n a0 b1 i5
  | 0, _, _, _ => rfl
  | m + 1, a0, b1, i5 => by
    have hrec : zz75_R4 N m (zz75_E4 kX kO) = (zz75_l4 N (zz75_X4 kX) m) := (funext fun a0 => (funext fun b1 => (funext fun i5 => zz75_iter4 N kX kO m a0 b1 i5)))
    refine (zz75_step4 N m kX kO a0 b1 i5).trans ?_
    rw [hrec]
    rfl
noncomputable abbrev zz75_K4 (N : Nat) : Ex → St → Z0 := (blockK 0 (seqK ((A_zz75).shape 17) (run (A_zz75) N (codeAt Tryz.f24 [1, 1, 1])) zz75_z))
noncomputable abbrev zz75_k4 (N : Nat) : St → Z0 := fun st' => run (A_zz75) N (codeAt Tryz.f24 [1, 1, 1]) st' zz75_z
theorem zz75_after4 (N : Nat) : zz75_X4 (zz75_k4 N) = zz75_a4 := by kernel_rfl
theorem zz75_in4 (N : Nat) (a0 b1 : Y4) (i5 : Int) : zz75_R4 N N (zz75_K4 N) a0 b1 i5 = zz75_F4 N a0 b1 i5 :=
  have h : zz75_X4 (zz75_k4 N) = (zz75_a4) := zz75_after4 N
  ((iter_ex (fun st => by kernel_rfl) (fun st => by kernel_rfl)).trans (zz75_iter4 N (zz75_k4 N) (fun j st => (zz75_K4 N) (.exit j) st) N a0 b1 i5)).trans (congrArg (fun k => zz75_l4 N k N a0 b1 i5) h)
theorem run0_zz75 (N : Nat) (x : (S_zz75).a.den) : runF (A_zz75) N Tryz.f24 S_zz75 x = (zz75_s (zz75_R4 N N (zz75_K4 N)) x.1 x.2.1) := by kernel_rfl
theorem run_zz75 (N : Nat) (x : (S_zz75).a.den) : runF (A_zz75) N Tryz.f24 S_zz75 x = zz75 N x.1 x.2.1 := by
  refine (run0_zz75 N x).trans ?_
  rw [(funext fun a0 => (funext fun b1 => (funext fun i5 => zz75_in4 N a0 b1 i5)))]
  rfl
theorem fn_zz75 : FnOk Tryz.prog 24 := ⟨_, Tryz.func24, by kernel_rfl, by kernel_rfl⟩
theorem good_zz75 : Gx.Good Tryz.prog 24 S_zz75 := good_of_run Tryz.func24 (of_decide_eq_true (by kernel_rfl)) fun x r h => ⟨A_zz75, big, mkCfg_ok tabOk, mkCfg_sigs (show SigsOk Tryz.prog [] from trivial), (run_zz75 big x).trans h⟩

/-! zz76 -/
def zz76_b4 (rec : Y3 → Y3 → Int → Z0) (k : Z0) (a0 b1 : Y3) (i5 : Int) : Z0 :=
  cond (decide (i5 < (a0.length : Int)))
  ((atI a0 i5).bind fun xq1 =>
  (atI b1 i5).bind fun xq2 =>
  (zz75 big xq1 xq2).bind fun rq3 =>
  cond (!rq3.1)
  (some (false, (())))
  (rec a0 b1 (IntKind.i64.wrap (i5 + (1 : Int)))))
  (k)
def zz76_a4 : Z0 :=
  some (true, (()))
def zz76_s (L4 : Y3 → Y3 → Int → Z0) (a_0 b_1 : Y3) : Z0 :=
  cond (decide ((a_0.length : Int) ≠ (b_1.length : Int)))
  (some (false, (())))
  (L4 a_0 b_1 (0 : Int))
def zz76_l4 (N : Nat) (k : Z0) : Nat → Y3 → Y3 → Int → Z0
  | 0, _, _, _ => none
  | m + 1, a0, b1, i5 => zz76_b4 (zz76_l4 N k m) k a0 b1 i5
def zz76_F4 (N : Nat) (a0 b1 : Y3) (i5 : Int) : Z0 := zz76_l4 N (zz76_a4) N a0 b1 i5
def zz76 (N : Nat) (a_0 b_1 : Y3) : Z0 := zz76_s (zz76_F4 N) a_0 b_1
def S_zz76 : Sig := { a := (.pair (.sl (.sl I)) (.pair (.sl (.sl I)) .unit)), md := [0, 0], mf := [], m := .unit, r := .bool, rf := .i, f := fun x => zz76 big x.1 x.2.1 }
def A_zz76 : Cfg := mkCfg tab [(24, S_zz75)] [(8, [.as (.sl (.sl I)) .i, .as (.sl (.sl I)) .i, .drop, .drop, .drop, .as I .i]), (17, [])]
noncomputable def zz76_R4 (N n : Nat) (K : Ex → St → Z0) (a0 b1 : Y3) (i5 : Int) : Z0 := iter ((A_zz76).shape 8) (run (A_zz76) N (codeAt Tryz.f8 [1, 1, 0, 1, 0, 0])) n ([.val (.sl (.sl I)) .i a0, .val (.sl (.sl I)) .i b1, .u, .u, .u, .val I .i i5] ++ List.replicate 21 .u) K
noncomputable abbrev zz76_z : Ex → St → Z0 := finish (A_zz76) S_zz76 Tryz.f8.results.toList
noncomputable abbrev zz76_X4 (kX : St → Z0) : Z0 := kX ([] ++ List.replicate 27 .u)
noncomputable abbrev zz76_E4 (kX : St → Z0) (kO : Nat → St → Z0) : Ex → St → Z0 := exK zz76_z 0 ((A_zz76).shape 17) kX kO
theorem zz76_step4 (N m : Nat) (kX : St → Z0) (kO : Nat → St → Z0) (a0 b1 : Y3) (i5 : Int) : zz76_R4 N (m + 1) (zz76_E4 kX kO) a0 b1 i5 = zz76_b4 (zz76_R4 N m (zz76_E4 kX kO)) (zz76_X4 kX) a0 b1 i5 := by kernel_rfl
theorem zz76_iter4 (N : Nat) (kX : St → Z0) (kO : Nat → St → Z0) : ∀ (n : Nat) (a0 b1 : Y3) (i5 : Int), zz76_R4 N n (zz76_E4 kX kO) a0 b1 i5 = zz76_l4 N (zz76_X4 kX) n a0 b1 i5
  | 0, _, _, _ => rfl
  | m + 1, a0, b1, i5 => by
    have hrec : zz76_R4 N m (zz76_E4 kX kO) = (zz76_l4 N (zz76_X4 kX) m) := (funext fun a0 => (funext fun b1 => (funext fun i5 => zz76_iter4 N kX kO m a0 b1 i5)))
    refine (zz76_step4 N m kX kO a0 b1 i5).trans ?_
    rw [hrec]
    rfl
noncomputable abbrev zz76_K4 (N : Nat) : Ex → St → Z0 := (blockK 0 (seqK ((A_zz76).shape 17) (run (A_zz76) N (codeAt Tryz.f8 [1, 1, 1])) zz76_z))
noncomputable abbrev zz76_k4 (N : Nat) : St → Z0 := fun st' => run (A_zz76) N (codeAt Tryz.f8 [1, 1, 1]) st' zz76_z
theorem zz76_after4 (N : Nat) : zz76_X4 (zz76_k4 N) = zz76_a4 := by kernel_rfl
theorem zz76_in4 (N : Nat) (a0 b1 : Y3) (i5 : Int) : zz76_R4 N N (zz76_K4 N) a0 b1 i5 = zz76_F4 N a0 b1 i5 :=
  have h : zz76_X4 (zz76_k4 N) = (zz76_a4) := zz76_after4 N
  ((iter_ex (fun st => by kernel_rfl) (fun st => by kernel_rfl)).trans (zz76_iter4 N (zz76_k4 N) (fun j st => (zz76_K4 N) (.exit j) st) N a0 b1 i5)).trans (congrArg (fun k => zz76_l4 N k N a0 b1 i5) h)
theorem run0_zz76 (N : Nat) (x : (S_zz76).a.den) : runF (A_zz76) N Tryz.f8 S_zz76 x = (zz76_s (zz76_R4 N N (zz76_K4 N)) x.1 x.2.1) := by kernel_rfl
theorem run_zz76 (N : Nat) (x : (S_zz76).a.den) : runF (A_zz76) N Tryz.f8 S_zz76 x = zz76 N x.1 x.2.1 := by
  refine (run0_zz76 N x).trans ?_
  rw [(funext fun a0 => (funext fun b1 => (funext fun i5 => zz76_in4 N a0 b1 i5)))]
  rfl
theorem fn_zz76 : FnOk Tryz.prog 8 := ⟨_, Tryz.func8, by kernel_rfl, by kernel_rfl⟩
theorem good_zz76 : Gx.Good Tryz.prog 8 S_zz76 := good_of_run Tryz.func8 (of_decide_eq_true (by kernel_rfl)) fun x r h => ⟨A_zz76, big, mkCfg_ok tabOk, mkCfg_sigs (show SigsOk Tryz.prog [(24, S_zz75)] from ⟨⟨fn_zz75, good_zz75⟩, trivial⟩), (run_zz76 big x).trans h⟩

/-! zz77 -/
def zz77_s (a_0 b_1 : Y2) : Z0 :=
  (zz76 big a_0.1 b_1.1).bind fun rq1 =>
  cond (!rq1.1)
  (some (false, (())))
  (some (true, (())))
def zz77 (a_0 b_1 : Y2) : Z0 := zz77_s a_0 b_1
def S_zz77 : Sig := { a := (.pair (.pair (.sl (.sl I)) .unit) (.pair (.pair (.sl (.sl I)) .unit) .unit)), md := [0, 0], mf := [], m := .unit, r := .bool, rf := .i, f := fun x => zz77 x.1 x.2.1 }
def A_zz77 : Cfg := mkCfg tab [(8, S_zz76)] []
theorem run_zz77 (N : Nat) (x : (S_zz77).a.den) : runF (A_zz77) N Tryz.f9 S_zz77 x = zz77 x.1 x.2.1 := by kernel_rfl
theorem fn_zz77 : FnOk Tryz.prog 9 := ⟨_, Tryz.func9, by kernel_rfl, by kernel_rfl⟩
theorem good_zz77 : Gx.Good Tryz.prog 9 S_zz77 := good_of_run Tryz.func9 (of_decide_eq_true (by kernel_rfl)) fun x r h => ⟨A_zz77, big, mkCfg_ok tabOk, mkCfg_sigs (show SigsOk Tryz.prog [(8, S_zz76)] from ⟨⟨fn_zz76, good_zz76⟩, trivial⟩), (run_zz77 big x).trans h⟩

/-! zz78 -/
def zz78_b2 (rec : Y4 → Int → Int → Option Y6) (k : Y4 → Int → Option Y6) (a0 : Y4) (k1 i5 : Int) : Option Y6 :=
  cond (decide (i5 < (a0.length : Int)))
  ((atI a0 i5).bind fun _ =>
  (a0[i5.toNat]?).bind fun xq1 =>
  rec (a0.set i5.toNat k1) (IntKind.i64.wrap (k1 + (1 : Int))) (IntKind.i64.wrap (i5 + (1 : Int))))
  (k a0 k1)
def zz78_a2 (a0 : Y4) (k1 : Int) : Option Y6 :=
  some (k1, (a0, ()))
def zz78_s (L2 : Y4 → Int → Int → Option Y6) (a_0 : Y4) (k_1 : Int) : Option Y6 :=
  L2 a_0 k_1 (0 : Int)
def zz78_l2 (N : Nat) (k : Y4 → Int → Option Y6) : Nat → Y4 → Int → Int → Option Y6
  | 0, _, _, _ => none
  | m + 1, a0, k1, i5 => zz78_b2 (zz78_l2 N k m) k a0 k1 i5
def zz78_F2 (N : Nat) (a0 : Y4) (k1 i5 : Int) : Option Y6 := zz78_l2 N (zz78_a2) N a0 k1 i5
def zz78 (N : Nat) (a_0 : Y4) (k_1 : Int) : Option Y6 := zz78_s (zz78_F2 N) a_0 k_1
def S_zz78 : Sig := { a := (.pair (.sl I) (.pair I .unit)), md := [1, 0], mf := [(.o .i)], m := (.pair (.sl I) .unit), r := I, rf := .i, f := fun x => zz78 big x.1 x.2.1 }
def A_zz78 : Cfg := mkCfg tab [] [(4, [.as (.sl I) (.o .i), .as I .i, .drop, .drop, .drop, .as I .i]), (13, [.as (.sl I) (.o .i), .as I .i])]
noncomputable def zz78_R2 (N n : Nat) (K : Ex → St → Option Y6) (a0 : Y4) (k1 i5 : Int) : Option Y6 := iter ((A_zz78).shape 4) (run (A_zz78) N (codeAt Tryz.f25 [1, 0, 1, 0, 0])) n ([.val (.sl I) (.o .i) a0, .val I .i k1, .u, .u, .u, .val I .i i5] ++ List.replicate 13 .u) K
noncomputable abbrev zz78_z : Ex → St → Option Y6 := finish (A_zz78) S_zz78 Tryz.f25.results.toList
noncomputable abbrev zz78_X2 (kX : St → Option Y6) : Y4 → Int → Option Y6 := fun (a0 : Y4) (k1 : Int) => kX ([.val (.sl I) (.o .i) a0, .val I .i k1] ++ List.replicate 17 .u)
noncomputable abbrev zz78_E2 (kX : St → Option Y6) (kO : Nat → St → Option Y6) : Ex → St → Option Y6 := exK zz78_z 0 ((A_zz78).shape 13) kX kO
theorem zz78_step2 (N m : Nat) (kX : St → Option Y6) (kO : Nat → St → Option Y6) (a0 : Y4) (k1 i5 : Int) : zz78_R2 N (m + 1) (zz78_E2 kX kO) a0 k1 i5 = zz78_b2 (zz78_R2 N m (zz78_E2 kX kO)) (zz78_X2 kX) a0 k1 i5 := by kernel_rfl
theorem zz78_iter2 (N : Nat) (kX : St → Option Y6) (kO : Nat → St → Option Y6) : ∀ (n : Nat) (a0 : Y4) (k1 i5 : Int), zz78_R2 N n (zz78_E2 kX kO) a0 k1 i5 = zz78_l2 N (zz78_X2 kX) n a0 k1 i5
  | 0, _, _, _ => rfl
  | m + 1, a0, k1, i5 => by
    have hrec : zz78_R2 N m (zz78_E2 kX kO) = (zz78_l2 N (zz78_X2 kX) m) := (funext fun a0 => (funext fun k1 => (funext fun i5 => zz78_iter2 N kX kO m a0 k1 i5)))
    refine (zz78_step2 N m kX kO a0 k1 i5).trans ?_
    rw [hrec]
    rfl
noncomputable abbrev zz78_K2 (N : Nat) : Ex → St → Option Y6 := (blockK 0 (seqK ((A_zz78).shape 13) (run (A_zz78) N (codeAt Tryz.f25 [1, 1])) zz78_z))
noncomputable abbrev zz78_k2 (N : Nat) : St → Option Y6 := fun st' => run (A_zz78) N (codeAt Tryz.f25 [1, 1]) st' zz78_z
theorem zz78_after2 (N : Nat) (a0 : Y4) (k1 : Int) : zz78_X2 (zz78_k2 N) a0 k1 = zz78_a2 a0 k1 := by kernel_rfl
theorem zz78_in2 (N : Nat) (a0 : Y4) (k1 i5 : Int) : zz78_R2 N N (zz78_K2 N) a0 k1 i5 = zz78_F2 N a0 k1 i5 :=
  have h : zz78_X2 (zz78_k2 N) = (zz78_a2) := (funext fun a0 => (funext fun k1 => zz78_after2 N a0 k1))
  ((iter_ex (fun st => by kernel_rfl) (fun st => by kernel_rfl)).trans (zz78_iter2 N (zz78_k2 N) (fun j st => (zz78_K2 N) (.exit j) st) N a0 k1 i5)).trans (congrArg (fun k => zz78_l2 N k N a0 k1 i5) h)
theorem run0_zz78 (N : Nat) (x : (S_zz78).a.den) : runF (A_zz78) N Tryz.f25 S_zz78 x = (zz78_s (zz78_R2 N N (zz78_K2 N)) x.1 x.2.1) := by kernel_rfl
theorem run_zz78 (N : Nat) (x : (S_zz78).a.den) : runF (A_zz78) N Tryz.f25 S_zz78 x = zz78 N x.1 x.2.1 := by
  refine (run0_zz78 N x).trans ?_
  rw [(funext fun a0 => (funext fun k1 => (funext fun i5 => zz78_in2 N a0 k1 i5)))]
  rfl
theorem fn_zz78 : FnOk Tryz.prog 25 := ⟨_, Tryz.func25, by kernel_rfl, by kernel_rfl⟩
theorem good_zz78 : Gx.Good Tryz.prog 25 S_zz78 := good_of_run Tryz.func25 (of_decide_eq_true (by kernel_rfl)) fun x r h => ⟨A_zz78, big, mkCfg_ok tabOk, mkCfg_sigs (show SigsOk Tryz.prog [] from trivial), (run_zz78 big x).trans h⟩

/-! zz79 -/
def zz79_b2 (rec : Y3 → Int → Int → Option (Int × Y2)) (k : Y3 → Int → Option (Int × Y2)) (a0 : Y3) (k1 i5 : Int) : Option (Int × Y2) :=
  cond (decide (i5 < (a0.length : Int)))
  ((atI a0 i5).bind fun _ =>
  (a0[i5.toNat]?).bind fun xq1 =>
  (a0[i5.toNat]?).bind fun xq2 =>
  (zz78 big xq2 k1).bind fun rq3 =>
  (a0[i5.toNat]?).bind fun xq4 =>
  (a0[i5.toNat]?).bind fun xq5 =>
  rec (a0.set i5.toNat rq3.2.1) rq3.1 (IntKind.i64.wrap (i5 + (1 : Int))))
  (k a0 k1)
def zz79_a2 (a0 : Y3) (k1 : Int) : Option (Int × Y2) :=
  some (k1, (a0, ()))
def zz79_s (L2 : Y3 → Int → Int → Option (Int × Y2)) (a_0 : Y3) (k_1 : Int) : Option (Int × Y2) :=
  L2 a_0 k_1 (0 : Int)
def zz79_l2 (N : Nat) (k : Y3 → Int → Option (Int × Y2)) : Nat → Y3 → Int → Int → Option (Int × Y2)
  | 0, _, _, _ => none
  | m + 1, a0, k1, i5 => zz79_b2 (zz79_l2 N k m) k a0 k1 i5
def zz79_F2 (N : Nat) (a0 : Y3) (k1 i5 : Int) : Option (Int × Y2) := zz79_l2 N (zz79_a2) N a0 k1 i5
def zz79 (N : Nat) (a_0 : Y3) (k_1 : Int) : Option (Int × Y2) := zz79_s (zz79_F2 N) a_0 k_1
def S_zz79 : Sig := { a := (.pair (.sl (.sl I)) (.pair I .unit)), md := [1, 0], mf := [(.o (.o .i))], m := (.pair (.sl (.sl I)) .unit), r := I, rf := .i, f := fun x => zz79 big x.1 x.2.1 }
def A_zz79 : Cfg := mkCfg tab [(25, S_zz78)] [(4, [.as (.sl (.sl I)) (.o (.o .i)), .as I .i, .drop, .drop, .drop, .as I .i]), (11, [.as (.sl (.sl I)) (.o (.o .i)), .as I .i])]
noncomputable def zz79_R2 (N n : Nat) (K : Ex → St → Option (Int × Y2)) (a0 : Y3) (k1 i5 : Int) : Option (Int × Y2) := iter ((A_zz79).shape 4) (run (A_zz79) N (codeAt Tryz.f11 [1, 0, 1, 0, 0])) n ([.val (.sl (.sl I)) (.o (.o .i)) a0, .val I .i k1, .u, .u, .u, .val I .i i5] ++ List.replicate 13 .u) K
noncomputable abbrev zz79_z : Ex → St → Option (Int × Y2) := finish (A_zz79) S_zz79 Tryz.f11.results.toList
noncomputable abbrev zz79_X2 (kX : St → Option (Int × Y2)) : Y3 → Int → Option (Int × Y2) := fun (a0 : Y3) (k1 : Int) => kX ([.val (.sl (.sl I)) (.o (.o .i)) a0, .val I .i k1] ++ List.replicate 17 .u)
noncomputable abbrev zz79_E2 (kX : St → Option (Int × Y2)) (kO : Nat → St → Option (Int × Y2)) : Ex → St → Option (Int × Y2) := exK zz79_z 0 ((A_zz79).shape 11) kX kO
theorem zz79_step2 (N m : Nat) (kX : St → Option (Int × Y2)) (kO : Nat → St → Option (Int × Y2)) (a0 : Y3) (k1 i5 : Int) : zz79_R2 N (m + 1) (zz79_E2 kX kO) a0 k1 i5 = zz79_b2 (zz79_R2 N m (zz79_E2 kX kO)) (zz79_X2 kX) a0 k1 i5 := by kernel_rfl
theorem zz79_iter2 (N : Nat) (kX : St → Option (Int × Y2)) (kO : Nat → St → Option (Int × Y2)) : ∀ (n : Nat) (a0 : Y3) (k1 i5 : Int), zz79_R2 N n (zz79_E2 kX kO) a0 k1 i5 = zz79_l2 N (zz79_X2 kX) n a0 k1 i5
  | 0, _, _, _ => rfl
  | m + 1, a0, k1, i5 => by
    have hrec : zz79_R2 N m (zz79_E2 kX kO) = (zz79_l2 N (zz79_X2 kX) m) := (funext fun a0 => (funext fun k1 => (funext fun i5 => zz79_iter2 N kX kO m a0 k1 i5)))
    refine (zz79_step2 N m kX kO a0 k1 i5).trans ?_
    rw [hrec]
    rfl
noncomputable abbrev zz79_K2 (N : Nat) : Ex → St → Option (Int × Y2) := (blockK 0 (seqK ((A_zz79).shape 11) (run (A_zz79) N (codeAt Tryz.f11 [1, 1])) zz79_z))
noncomputable abbrev zz79_k2 (N : Nat) : St → Option (Int × Y2) := fun st' => run (A_zz79) N (codeAt Tryz.f11 [1, 1]) st' zz79_z
theorem zz79_after2 (N : Nat) (a0 : Y3) (k1 : Int) : zz79_X2 (zz79_k2 N) a0 k1 = zz79_a2 a0 k1 := by kernel_rfl
theorem zz79_in2 (N : Nat) (a0 : Y3) (k1 i5 : Int) : zz79_R2 N N (zz79_K2 N) a0 k1 i5 = zz79_F2 N a0 k1 i5 :=
  have h : zz79_X2 (zz79_k2 N) = (zz79_a2) := (funext fun a0 => (funext fun k1 => zz79_after2 N a0 k1))
  ((iter_ex (fun st => by kernel_rfl) (fun st => by kernel_rfl)).trans (zz79_iter2 N (zz79_k2 N) (fun j st => (zz79_K2 N) (.exit j) st) N a0 k1 i5)).trans (congrArg (fun k => zz79_l2 N k N a0 k1 i5) h)
theorem run0_zz79 (N : Nat) (x : (S_zz79).a.den) : runF (A_zz79) N Tryz.f11 S_zz79 x = (zz79_s (zz79_R2 N N (zz79_K2 N)) x.1 x.2.1) := by kernel_rfl
theorem run_zz79 (N : Nat) (x : (S_zz79).a.den) : runF (A_zz79) N Tryz.f11 S_zz79 x = zz79 N x.1 x.2.1 := by
  refine (run0_zz79 N x).trans ?_
  rw [(funext fun a0 => (funext fun k1 => (funext fun i5 => zz79_in2 N a0 k1 i5)))]
  rfl
theorem fn_zz79 : FnOk Tryz.prog 11 := ⟨_, Tryz.func11, by kernel_rfl, by kernel_rfl⟩
theorem good_zz79 : Gx.Good Tryz.prog 11 S_zz79 := good_of_run Tryz.func11 (of_decide_eq_true (by kernel_rfl)) fun x r h => ⟨A_zz79, big, mkCfg_ok tabOk, mkCfg_sigs (show SigsOk Tryz.prog [(25, S_zz78)] from ⟨⟨fn_zz78, good_zz78⟩, trivial⟩), (run_zz79 big x).trans h⟩

/-! zz80 -/
def zz80 (a_0 : Y2) (k_1 : Int) : Option (Int × (Y2 × Unit)) := (zz79 big a_0.1 k_1).bind fun r => some (r.1, ((r.2.1, ()), ()))
def S_zz80 : Sig := { a := (.pair (.pair (.sl (.sl I)) .unit) (.pair I .unit)), md := [1, 0], mf := [(.p (.o (.o .i)) .i)], m := (.pair (.pair (.sl (.sl I)) .unit) .unit), r := I, rf := .i, f := fun x => zz80 x.1 x.2.1 }
theorem fn_zz80 : FnOk Tryz.prog 10 := ⟨_, Tryz.func10, by kernel_rfl, by kernel_rfl⟩
theorem good_zz80 : Gx.Good Tryz.prog 10 S_zz80   := good_bx1 (A := mkCfg tab [] []) (T := 28) (TS := 22) (mkCfg_ok tabOk) Tryz.func10 (by kernel_rfl) (by kernel_rfl) fn_zz79 (by kernel_rfl) (by kernel_rfl) good_zz79

/-! zz81 -/
def zz81_b2 (rec : Y4 → Int → Int → Z2) (k : Int → Z2) (a0 : Y4) (k1 i5 : Int) : Z2 :=
  cond (decide (i5 < (a0.length : Int)))
  ((atI a0 i5).bind fun xq1 =>
  cond (decide (xq1 ≠ k1))
  (some ((-1 : Int), (())))
  (rec a0 (IntKind.i64.wrap (k1 + (1 : Int))) (IntKind.i64.wrap (i5 + (1 : Int)))))
  (k k1)
def zz81_a2 (k1 : Int) : Z2 :=
  some (k1, (()))
def zz81_s (L2 : Y4 → Int → Int → Z2) (a_0 : Y4) (k_1 : Int) : Z2 :=
  L2 a_0 k_1 (0 : Int)
def zz81_l2 (N : Nat) (k : Int → Z2) : Nat → Y4 → Int → Int → Z2
  | 0, _, _, _ => none
  | m + 1, a0, k1, i5 => zz81_b2 (zz81_l2 N k m) k a0 k1 i5
def zz81_F2 (N : Nat) (a0 : Y4) (k1 i5 : Int) : Z2 := zz81_l2 N (zz81_a2) N a0 k1 i5
def zz81 (N : Nat) (a_0 : Y4) (k_1 : Int) : Z2 := zz81_s (zz81_F2 N) a_0 k_1
def S_zz81 : Sig := { a := (.pair (.sl I) (.pair I .unit)), md := [0, 0], mf := [], m := .unit, r := I, rf := .i, f := fun x => zz81 big x.1 x.2.1 }
def A_zz81 : Cfg := mkCfg tab [] [(4, [.as (.sl I) .i, .as I .i, .drop, .drop, .drop, .as I .i]), (15, [.drop, .as I .i])]
noncomputable def zz81_R2 (N n : Nat) (K : Ex → St → Z2) (a0 : Y4) (k1 i5 : Int) : Z2 := iter ((A_zz81).shape 4) (run (A_zz81) N (codeAt Tryz.f26 [1, 0, 1, 0, 0])) n ([.val (.sl I) .i a0, .val I .i k1, .u, .u, .u, .val I .i i5] ++ List.replicate 15 .u) K
noncomputable abbrev zz81_z : Ex → St → Z2 := finish (A_zz81) S_zz81 Tryz.f26.results.toList
noncomputable abbrev zz81_X2 (kX : St → Z2) : Int → Z2 := fun (k1 : Int) => kX ([.u, .val I .i k1] ++ List.replicate 19 .u)
noncomputable abbrev zz81_E2 (kX : St → Z2) (kO : Nat → St → Z2) : Ex → St → Z2 := exK zz81_z 0 ((A_zz81).shape 15) kX kO
theorem zz81_step2 (N m : Nat) (kX : St → Z2) (kO : Nat → St → Z2) (a0 : Y4) (k1 i5 : Int) : zz81_R2 N (m + 1) (zz81_E2 kX kO) a0 k1 i5 = zz81_b2 (zz81_R2 N m (zz81_E2 kX kO)) (zz81_X2 kX) a0 k1 i5 := by kernel_rfl
theorem zz81_iter2 (N : Nat) (kX : St → Z2) (kO : Nat → St → Z2) : ∀ (n : Nat) (a0 : Y4) (k1 i5 : Int), zz81_R2 N n (zz81_E2 kX kO) a0 k1 i5 = zz81_l2 N (zz81_X2 kX) n a0 k1 i5
  | 0, _, _, _ => rfl
  | m + 1, a0, k1, i5 => by
    have hrec : zz81_R2 N m (zz81_E2 kX kO) = (zz81_l2 N (zz81_X2 kX) m) := (funext fun a0 => (funext fun k1 => (funext fun i5 => zz81_iter2 N kX kO m a0 k1 i5)))
    refine (zz81_step2 N m kX kO a0 k1 i5).trans ?_
    rw [hrec]
    rfl
noncomputable abbrev zz81_K2 (N : Nat) : Ex → St → Z2 := (blockK 0 (seqK ((A_zz81).shape 15) (run (A_zz81) N (codeAt Tryz.f26 [1, 1])) zz81_z))
noncomputable abbrev zz81_k2 (N : Nat) : St → Z2 := fun st' => run (A_zz81) N (codeAt Tryz.f26 [1, 1]) st' zz81_z
theorem zz81_after2 (N : Nat) (k1 : Int) : zz81_X2 (zz81_k2 N) k1 = zz81_a2 k1 := by kernel_rfl
theorem zz81_in2 (N : Nat) (a0 : Y4) (k1 i5 : Int) : zz81_R2 N N (zz81_K2 N) a0 k1 i5 = zz81_F2 N a0 k1 i5 :=
  have h : zz81_X2 (zz81_k2 N) = (zz81_a2) := (funext fun k1 => zz81_after2 N k1)
  ((iter_ex (fun st => by kernel_rfl) (fun st => by kernel_rfl)).trans (zz81_iter2 N (zz81_k2 N) (fun j st => (zz81_K2 N) (.exit j) st) N a0 k1 i5)).trans (congrArg (fun k => zz81_l2 N k N a0 k1 i5) h)
theorem run0_zz81 (N : Nat) (x : (S_zz81).a.den) : runF (A_zz81) N Tryz.f26 S_zz81 x = (zz81_s (zz81_R2 N N (zz81_K2 N)) x.1 x.2.1) := by kernel_rfl
theorem run_zz81 (N : Nat) (x : (S_zz81).a.den) : runF (A_zz81) N Tryz.f26 S_zz81 x = zz81 N x.1 x.2.1 := by
  refine (run0_zz81 N x).trans ?_
  rw [(funext fun a0 => (funext fun k1 => (funext fun i5 => zz81_in2 N a0 k1 i5)))]
  rfl
theorem fn_zz81 : FnOk Tryz.prog 26 := ⟨_, Tryz.func26, by kernel_rfl, by kernel_rfl⟩
theorem good_zz81 : Gx.Good Tryz.prog 26 S_zz81 := good_of_run Tryz.func26 (of_decide_eq_true (by kernel_rfl)) fun x r h => ⟨A_zz81, big, mkCfg_ok tabOk, mkCfg_sigs (show SigsOk Tryz.prog [] from trivial), (run_zz81 big x).trans h⟩

/-! zz82 -/
def zz82_b2 (rec : Y3 → Int → Int → Z2) (k : Int → Z2) (a0 : Y3) (k1 i5 : Int) : Z2 :=
  cond (decide (i5 < (a0.length : Int)))
  ((atI a0 i5).bind fun xq1 =>
  (zz81 big xq1 k1).bind fun rq2 =>
  cond (decide (rq2.1 < (0 : Int)))
  (some ((-1 : Int), (())))
  (rec a0 rq2.1 (IntKind.i64.wrap (i5 + (1 : Int)))))
  (k k1)
def zz82_a2 (k1 : Int) : Z2 :=
  some (k1, (()))
def zz82_s (L2 : Y3 → Int → Int → Z2) (a_0 : Y3) (k_1 : Int) : Z2 :=
  L2 a_0 k_1 (0 : Int)
def zz82_l2 (N : Nat) (k : Int → Z2) : Nat → Y3 → Int → Int → Z2
  | 0, _, _, _ => none
  | m + 1, a0, k1, i5 => zz82_b2 (zz82_l2 N k m) k a0 k1 i5
def zz82_F2 (N : Nat) (a0 : Y3) (k1 i5 : Int) : Z2 := zz82_l2 N (zz82_a2) N a0 k1 i5
def zz82 (N : Nat) (a_0 : Y3) (k_1 : Int) : Z2 := zz82_s (zz82_F2 N) a_0 k_1
def S_zz82 : Sig := { a := (.pair (.sl (.sl I)) (.pair I .unit)), md := [0, 0], mf := [], m := .unit, r := I, rf := .i, f := fun x => zz82 big x.1 x.2.1 }
def A_zz82 : Cfg := mkCfg tab [(26, S_zz81)] [(4, [.as (.sl (.sl I)) .i, .as I .i, .drop, .drop, .drop, .as I .i]), (15, [.drop, .as I .i])]
noncomputable def zz82_R2 (N n : Nat) (K : Ex → St → Z2) (a0 : Y3) (k1 i5 : Int) : Z2 := iter ((A_zz82).shape 4) (run (A_zz82) N (codeAt Tryz.f12 [1, 0, 1, 0, 0])) n ([.val (.sl (.sl I)) .i a0, .val I .i k1, .u, .u, .u, .val I .i i5] ++ List.replicate 15 .u) K
noncomputable abbrev zz82_z : Ex → St → Z2 := finish (A_zz82) S_zz82 Tryz.f12.results.toList
noncomputable abbrev zz82_X2 (kX : St → Z2) : Int → Z2 := fun (k1 : Int) => kX ([.u, .val I .i k1] ++ List.replicate 19 .u)
noncomputable abbrev zz82_E2 (kX : St → Z2) (kO : Nat → St → Z2) : Ex → St → Z2 := exK zz82_z 0 ((A_zz82).shape 15) kX kO
theorem zz82_step2 (N m : Nat) (kX : St → Z2) (kO : Nat → St → Z2) (a0 : Y3) (k1 i5 : Int) : zz82_R2 N (m + 1) (zz82_E2 kX kO) a0 k1 i5 = zz82_b2 (zz82_R2 N m (zz82_E2 kX kO)) (zz82_X2 kX) a0 k1 i5 := by kernel_rfl
theorem zz82_iter2 (N : Nat) (kX : St → Z2) (kO : Nat → St → Z2) : ∀ (n : Nat) (a0 : Y3) (k1 i5 : Int), zz82_R2 N n (zz82_E2 kX kO) a0 k1 i5 = zz82_l2 N (zz82_X2 kX) n a0 k1 i5
  | 0, _, _, _ => rfl
  | m + 1, a0, k1, i5 => by
    have hrec : zz82_R2 N m (zz82_E2 kX kO) = (zz82_l2 N (zz82_X2 kX) m) := (funext fun a0 => (funext fun k1 => (funext fun i5 => zz82_iter2 N kX kO m a0 k1 i5)))
    refine (zz82_step2 N m kX kO a0 k1 i5).trans ?_
    rw [hrec]
    rfl
noncomputable abbrev zz82_K2 (N : Nat) : Ex → St → Z2 := (blockK 0 (seqK ((A_zz82).shape 15) (run (A_zz82) N (codeAt Tryz.f12 [1, 1])) zz82_z))
noncomputable abbrev zz82_k2 (N : Nat) : St → Z2 := fun st' => run (A_zz82) N (codeAt Tryz.f12 [1, 1]) st' zz82_z
theorem zz82_after2 (N : Nat) (k1 : Int) : zz82_X2 (zz82_k2 N) k1 = zz82_a2 k1 := by kernel_rfl
theorem zz82_in2 (N : Nat) (a0 : Y3) (k1 i5 : Int) : zz82_R2 N N (zz82_K2 N) a0 k1 i5 = zz82_F2 N a0 k1 i5 :=
  have h : zz82_X2 (zz82_k2 N) = (zz82_a2) := (funext fun k1 => zz82_after2 N k1)
  ((iter_ex (fun st => by kernel_rfl) (fun st => by kernel_rfl)).trans (zz82_iter2 N (zz82_k2 N) (fun j st => (zz82_K2 N) (.exit j) st) N a0 k1 i5)).trans (congrArg (fun k => zz82_l2 N k N a0 k1 i5) h)
theorem run0_zz82 (N : Nat) (x : (S_zz82).a.den) : runF (A_zz82) N Tryz.f12 S_zz82 x = (zz82_s (zz82_R2 N N (zz82_K2 N)) x.1 x.2.1) := by kernel_rfl
theorem run_zz82 (N : Nat) (x : (S_zz82).a.den) : runF (A_zz82) N Tryz.f12 S_zz82 x = zz82 N x.1 x.2.1 := by
  refine (run0_zz82 N x).trans ?_
  rw [(funext fun a0 => (funext fun k1 => (funext fun i5 => zz82_in2 N a0 k1 i5)))]
  rfl
theorem fn_zz82 : FnOk Tryz.prog 12 := ⟨_, Tryz.func12, by kernel_rfl, by kernel_rfl⟩
theorem good_zz82 : Gx.Good Tryz.prog 12 S_zz82 := good_of_run Tryz.func12 (of_decide_eq_true (by kernel_rfl)) fun x r h => ⟨A_zz82, big, mkCfg_ok tabOk, mkCfg_sigs (show SigsOk Tryz.prog [(26, S_zz81)] from ⟨⟨fn_zz81, good_zz81⟩, trivial⟩), (run_zz82 big x).trans h⟩

/-! laws_FnExactForcedSets -/
def laws_FnExactForcedSets_s (aP_0 : Y2) : Z0 :=
  (zz2 aP_0 (1048576 : Int)).bind fun rq1 =>
  cond (decide (rq1.1 < (0 : Int)))
  (some (true, (())))
  ((zz5 aP_0).bind fun rq2 =>
  (zz36 rq2.1).bind fun rq3 =>
  (zz5 aP_0).bind fun rq4 =>
  (zz74 big rq4.1).bind fun rq5 =>
  (zz76 big rq5.1.1 rq3.1.1).bind fun rq6 =>
  cond (!rq6.1)
  (some (false, (())))
  (cond (((((), rq5.1.2).2).1) != rq3.1.2.1)
  (some (false, (())))
  ((zz5 aP_0).bind fun rq7 =>
  (zz77 rq4.1 rq7.1).bind fun rq8 =>
  cond (!rq8.1)
  (some (false, (())))
  ((zz80 rq4.1 (1 : Int)).bind fun rq9 =>
  cond (decide (rq9.1 < (0 : Int)))
  (some (false, (())))
  ((zz76 big rq5.1.1 rq3.1.1).bind fun rq10 =>
  cond (!rq10.1)
  (some (false, (())))
  (cond (((((), rq5.1.2).2).1) != rq3.1.2.1)
  (some (false, (())))
  ((zz79 big rq5.1.1 (1 : Int)).bind fun rq11 =>
  (zz82 big rq11.2.1 (1 : Int)).bind fun rq12 =>
  cond (decide (rq12.1 < (0 : Int)))
  (some (false, (())))
  (cond (decide (rq12.1 ≠ rq11.1))
  (some (false, (())))
  ((zz5 aP_0).bind fun rq13 =>
  (zz74 big rq13.1).bind fun rq14 =>
  (zz76 big rq14.1.1 rq3.1.1).bind fun rq15 =>
  cond (!rq15.1)
  (some (false, (())))
  (cond (((((), rq14.1.2).2).1) != rq3.1.2.1)
  (some (false, (())))
  ((zz82 big rq11.2.1 (1 : Int)).bind fun rq16 =>
  cond (decide (rq16.1 < (0 : Int)))
  (some (false, (())))
  (cond (decide (rq16.1 ≠ rq11.1))
  (some (false, (())))
  (some (true, (())))))))))))))))
def laws_FnExactForcedSets (aP_0 : Y2) : Z0 := laws_FnExactForcedSets_s aP_0
def S_laws_FnExactForcedSets : Sig := { a := (.pair (.pair (.sl (.sl I)) .unit) .unit), md := [0], mf := [], m := .unit, r := .bool, rf := .i, f := fun x => laws_FnExactForcedSets x.1 }
def A_laws_FnExactForcedSets : Cfg := mkCfg tab [(4, S_zz2), (6, S_zz5), (5, S_zz36), (7, S_zz74), (8, S_zz76), (9, S_zz77), (10, S_zz80), (11, S_zz79), (12, S_zz82)] []
theorem run_laws_FnExactForcedSets (N : Nat) (x : (S_laws_FnExactForcedSets).a.den) : runF (A_laws_FnExactForcedSets) N Tryz.f3 S_laws_FnExactForcedSets x = laws_FnExactForcedSets x.1 := by kernel_rfl
theorem fn_laws_FnExactForcedSets : FnOk Tryz.prog 3 := ⟨_, Tryz.func3, by kernel_rfl, by kernel_rfl⟩
theorem good_laws_FnExactForcedSets : Gx.Good Tryz.prog 3 S_laws_FnExactForcedSets := good_of_run Tryz.func3 (of_decide_eq_true (by kernel_rfl)) fun x r h => ⟨A_laws_FnExactForcedSets, big, mkCfg_ok tabOk, mkCfg_sigs (show SigsOk Tryz.prog [(4, S_zz2), (6, S_zz5), (5, S_zz36), (7, S_zz74), (8, S_zz76), (9, S_zz77), (10, S_zz80), (11, S_zz79), (12, S_zz82)] from ⟨⟨fn_zz2, good_zz2⟩, ⟨fn_zz5, good_zz5⟩, ⟨fn_zz36, good_zz36⟩, ⟨fn_zz74, good_zz74⟩, ⟨fn_zz76, good_zz76⟩, ⟨fn_zz77, good_zz77⟩, ⟨fn_zz80, good_zz80⟩, ⟨fn_zz79, good_zz79⟩, ⟨fn_zz82, good_zz82⟩, trivial⟩), (run_laws_FnExactForcedSets big x).trans h⟩
end
end Go.Proofs.YtlndlclemhfekaaGreat
