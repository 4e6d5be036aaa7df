import Derived.Test.YtlndlclemhfekaaVk11
set_option maxRecDepth 100000
set_option linter.unusedVariables false
namespace Go.Proofs.Ytlndlclemhfekaa
open Go Go.Gx Go.Proofs
noncomputable section

/-! zz44 -/
def zz44_b6 (rec : Y1 → Y3 → Y4 → Int → Int → Option ((Y3 × (Bool × Unit)) × Unit)) (k : Y3 → Option ((Y3 × (Bool × Unit)) × Unit)) (l4 : Y1) (list6 : Y3) (t19 : Y4) (t20 : Int) (t21 : Int) : Option ((Y3 × (Bool × Unit)) × Unit) :=
  cond (decide (t21 < t20))
  ((atI t19 t21).bind fun _ =>
  (t19[t21.toNat]?).bind fun xq3 =>
  (l4).bind fun xq4 =>
  (zz43 xq4.1 xq3).bind fun rq5 =>
  (appI list6 [rq5.1]).bind fun xq6 =>
  rec l4 xq6 t19 t20 (IntKind.i64.wrap (t21 + (1 : Int))))
  (k list6)
def zz44_a6 (list6 : Y3) : Option ((Y3 × (Bool × Unit)) × Unit) :=
  (impl_sortRows_k_compareTerms list6 ()).bind fun rq7 =>
  some ((rq7.2.1, true, ()), (()))
def zz44_s (L6 : Y1 → Y3 → Y4 → Int → Int → Option ((Y3 × (Bool × Unit)) × Unit)) (p_0 : Y2) : Option ((Y3 × (Bool × Unit)) × Unit) :=
  (zz33 p_0).bind fun rq1 =>
  cond (!rq1.1.2.1)
  (some (([], false, ()), (())))
  ((zz40 rq1.1.1).bind fun rq2 =>
  L6 rq1.1.1 [] rq2.1 (rq2.1.length : Int) (0 : Int))
def zz44_l6 (N : Nat) (k : Y3 → Option ((Y3 × (Bool × Unit)) × Unit)) : Nat → Y1 → Y3 → Y4 → Int → Int → Option ((Y3 × (Bool × Unit)) × Unit)
  | 0, _, _, _, _, _ => none
  | m + 1, l4, list6, t19, t20, t21 => zz44_b6 (zz44_l6 N k m) k l4 list6 t19 t20 t21
def zz44_F6 (N : Nat) (l4 : Y1) (list6 : Y3) (t19 : Y4) (t20 : Int) (t21 : Int) : Option ((Y3 × (Bool × Unit)) × Unit) := zz44_l6 N (zz44_a6) N l4 list6 t19 t20 t21
def zz44 (N : Nat) (p_0 : Y2) : Option ((Y3 × (Bool × Unit)) × Unit) := zz44_s (zz44_F6 N) p_0
def S_zz44 : Sig := { a := (.pair (.pair (.sl (.sl I)) .unit) .unit), md := [0], mf := [], m := .unit, r := (.tup (.pair (.sl (.sl I)) (.pair .bool .unit))), rf := (.p (.o (.o .i)) .i), f := fun x => zz44 big x.1 }
def A_zz44 : Cfg := mkCfg tab [(28, S_zz33), (29, S_zz40), (30, S_zz43), (31, S_impl_sortRows_k_compareTerms)] [(12, [.drop, .drop, .drop, .drop, .as (.opt (.pair (.sl (.sl .bool)) (.pair (.sl (.sl I)) (.pair (.sl (.sl I)) .unit)))) .i, .drop, .as (.sl (.sl I)) (.o (.o .i)), .drop, .drop, .drop, .drop, .drop, .drop, .drop, .drop, .drop, .drop, .drop, .drop, .as (.sl I) (.o .i), .as I .i, .as I .i]), (21, [.drop, .drop, .drop, .drop, .drop, .drop, .as (.sl (.sl I)) (.o (.o .i))])]
noncomputable def zz44_R6 (N n : Nat) (K : Ex → St → Option ((Y3 × (Bool × Unit)) × Unit)) (l4 : Y1) (list6 : Y3) (t19 : Y4) (t20 : Int) (t21 : Int) : Option ((Y3 × (Bool × Unit)) × Unit) := iter ((A_zz44).shape 12) (run (A_zz44) N (codeAt Try.f10 [1, 1, 1, 1, 0, 1, 0, 0])) n ([.u, .u, .u, .u, .val (.opt (.pair (.sl (.sl .bool)) (.pair (.sl (.sl I)) (.pair (.sl (.sl I)) .unit)))) .i l4, .u, .val (.sl (.sl I)) (.o (.o .i)) list6, .u, .u, .u, .u, .u, .u, .u, .u, .u, .u, .u, .u, .val (.sl I) (.o .i) t19, .val I .i t20, .val I .i t21] ++ List.replicate 16 .u) K
noncomputable abbrev zz44_z : Ex → St → Option ((Y3 × (Bool × Unit)) × Unit) := finish (A_zz44) S_zz44 Try.f10.results.toList
noncomputable abbrev zz44_X6 (kX : St → Option ((Y3 × (Bool × Unit)) × Unit)) : Y3 → Option ((Y3 × (Bool × Unit)) × Unit) := fun (list6 : Y3) => kX ([.u, .u, .u, .u, .u, .u, .val (.sl (.sl I)) (.o (.o .i)) list6] ++ List.replicate 31 .u)
noncomputable abbrev zz44_E6 (kX : St → Option ((Y3 × (Bool × Unit)) × Unit)) (kO : Nat → St → Option ((Y3 × (Bool × Unit)) × Unit)) : Ex → St → Option ((Y3 × (Bool × Unit)) × Unit) := exK zz44_z 0 ((A_zz44).shape 21) kX kO
theorem zz44_step6 (N : Nat) (m : Nat) (kX : St → Option ((Y3 × (Bool × Unit)) × Unit)) (kO : Nat → St → Option ((Y3 × (Bool × Unit)) × Unit)) (l4 : Y1) (list6 : Y3) (t19 : Y4) (t20 : Int) (t21 : Int) : zz44_R6 N (m + 1) (zz44_E6 kX kO) l4 list6 t19 t20 t21 = zz44_b6 (zz44_R6 N m (zz44_E6 kX kO)) (zz44_X6 kX) l4 list6 t19 t20 t21 := by kernel_rfl
theorem zz44_iter6 (N : Nat) (kX : St → Option ((Y3 × (Bool × Unit)) × Unit)) (kO : Nat → St → Option ((Y3 × (Bool × Unit)) × Unit)) : ∀ (n : Nat) (l4 : Y1) (list6 : Y3) (t19 : Y4) (t20 : Int) (t21 : Int), zz44_R6 N n (zz44_E6 kX kO) l4 list6 t19 t20 t21 = zz44_l6 N (zz44_X6 kX) n l4 list6 t19 t20 t21
  | 0, _, _, _, _, _ => rfl
  | m + 1, l4, list6, t19, t20, t21 => by
    have hrec : zz44_R6 N m (zz44_E6 kX kO) = (zz44_l6 N (zz44_X6 kX) m) := (funext fun l4 => (funext fun list6 => (funext fun t19 => (funext fun t20 => (funext fun t21 => zz44_iter6 N kX kO m l4 list6 t19 t20 t21)))))
    refine (zz44_step6 N m kX kO l4 list6 t19 t20 t21).trans ?_
    rw [hrec]
    rfl
noncomputable abbrev zz44_K6 (N : Nat) : Ex → St → Option ((Y3 × (Bool × Unit)) × Unit) := (blockK 0 (seqK ((A_zz44).shape 21) (run (A_zz44) N (codeAt Try.f10 [1, 1, 1, 1, 1])) zz44_z))
noncomputable abbrev zz44_k6 (N : Nat) : St → Option ((Y3 × (Bool × Unit)) × Unit) := fun st' => run (A_zz44) N (codeAt Try.f10 [1, 1, 1, 1, 1]) st' zz44_z
theorem zz44_after6 (N : Nat) (list6 : Y3) : zz44_X6 (zz44_k6 N) list6 = zz44_a6 list6 := by kernel_rfl
theorem zz44_in6 (N : Nat) (l4 : Y1) (list6 : Y3) (t19 : Y4) (t20 : Int) (t21 : Int) : zz44_R6 N N (zz44_K6 N) l4 list6 t19 t20 t21 = zz44_F6 N l4 list6 t19 t20 t21 :=
  have h : zz44_X6 (zz44_k6 N) = (zz44_a6) := (funext fun list6 => zz44_after6 N list6)
  ((iter_ex (fun st => by kernel_rfl) (fun st => by kernel_rfl)).trans (zz44_iter6 N (zz44_k6 N) (fun j st => (zz44_K6 N) (.exit j) st) N l4 list6 t19 t20 t21)).trans (congrArg (fun k => zz44_l6 N k N l4 list6 t19 t20 t21) h)
theorem run0_zz44 (N : Nat) (x : (S_zz44).a.den) : runF (A_zz44) N Try.f10 S_zz44 x = (zz44_s (zz44_R6 N N (zz44_K6 N)) x.1) := by kernel_rfl
theorem run_zz44 (N : Nat) (x : (S_zz44).a.den) : runF (A_zz44) N Try.f10 S_zz44 x = zz44 N x.1 := by
  refine (run0_zz44 N x).trans ?_
  rw [(funext fun l4 => (funext fun list6 => (funext fun t19 => (funext fun t20 => (funext fun t21 => zz44_in6 N l4 list6 t19 t20 t21)))))]
  rfl
theorem fn_zz44 : FnOk Try.prog 10 := ⟨_, Try.func10, by kernel_rfl, by kernel_rfl⟩
theorem good_zz44 : Gx.Good Try.prog 10 S_zz44 := good_of_run Try.func10 (of_decide_eq_true (by kernel_rfl)) fun x r h => ⟨A_zz44, big, mkCfg_ok tabOk, mkCfg_sigs (show SigsOk Try.prog [(28, S_zz33), (29, S_zz40), (30, S_zz43), (31, S_impl_sortRows_k_compareTerms)] from ⟨⟨fn_zz33, good_zz33⟩, ⟨fn_zz40, good_zz40⟩, ⟨fn_zz43, good_zz43⟩, ⟨fn_impl_sortRows_k_compareTerms, good_impl_sortRows_k_compareTerms⟩, trivial⟩), (run_zz44 big x).trans h⟩

/-! zz45 -/
def zz45_b4 (rec : Y4 → Y4 → Int → Option (Bool × Unit)) (k : Option (Bool × Unit)) (a0 : Y4) (b1 : Y4) (i5 : Int) : Option (Bool × Unit) :=
  cond (decide (i5 < (a0.length : Int)))
  ((atI a0 i5).bind fun xq1 =>
  (atI b1 i5).bind fun xq2 =>
  cond (decide (xq1 ≠ xq2))
  (some (false, (())))
  (rec a0 b1 (IntKind.i64.wrap (i5 + (1 : Int)))))
  (k)
def zz45_a4 : Option (Bool × Unit) :=
  some (true, (()))
def zz45_s (L4 : Y4 → Y4 → Int → Option (Bool × Unit)) (a_0 : Y4) (b_1 : Y4) : Option (Bool × Unit) :=
  cond (decide ((a_0.length : Int) ≠ (b_1.length : Int)))
  (some (false, (())))
  (L4 a_0 b_1 (0 : Int))
def zz45_l4 (N : Nat) (k : Option (Bool × Unit)) : Nat → Y4 → Y4 → Int → Option (Bool × Unit)
  | 0, _, _, _ => none
  | m + 1, a0, b1, i5 => zz45_b4 (zz45_l4 N k m) k a0 b1 i5
def zz45_F4 (N : Nat) (a0 : Y4) (b1 : Y4) (i5 : Int) : Option (Bool × Unit) := zz45_l4 N (zz45_a4) N a0 b1 i5
def zz45 (N : Nat) (a_0 : Y4) (b_1 : Y4) : Option (Bool × Unit) := zz45_s (zz45_F4 N) a_0 b_1
def S_zz45 : Sig := { a := (.pair (.sl I) (.pair (.sl I) .unit)), md := [0, 0], mf := [], m := .unit, r := .bool, rf := .i, f := fun x => zz45 big x.1 x.2.1 }
def A_zz45 : Cfg := mkCfg tab [] [(8, [.as (.sl I) .i, .as (.sl I) .i, .drop, .drop, .drop, .as I .i]), (17, [])]
noncomputable def zz45_R4 (N n : Nat) (K : Ex → St → Option (Bool × Unit)) (a0 : Y4) (b1 : Y4) (i5 : Int) : Option (Bool × Unit) := iter ((A_zz45).shape 8) (run (A_zz45) N (codeAt Try.f33 [1, 1, 0, 1, 0, 0])) n ([.val (.sl I) .i a0, .val (.sl I) .i b1, .u, .u, .u, .val I .i i5] ++ List.replicate 20 .u) K
noncomputable abbrev zz45_z : Ex → St → Option (Bool × Unit) := finish (A_zz45) S_zz45 Try.f33.results.toList
noncomputable abbrev zz45_X4 (kX : St → Option (Bool × Unit)) : Option (Bool × Unit) := kX ([] ++ List.replicate 26 .u)
noncomputable abbrev zz45_E4 (kX : St → Option (Bool × Unit)) (kO : Nat → St → Option (Bool × Unit)) : Ex → St → Option (Bool × Unit) := exK zz45_z 0 ((A_zz45).shape 17) kX kO
theorem zz45_step4 (N : Nat) (m : Nat) (kX : St → Option (Bool × Unit)) (kO : Nat → St → Option (Bool × Unit)) (a0 : Y4) (b1 : Y4) (i5 : Int) : zz45_R4 N (m + 1) (zz45_E4 kX kO) a0 b1 i5 = zz45_b4 (zz45_R4 N m (zz45_E4 kX kO)) (zz45_X4 kX) a0 b1 i5 := by kernel_rfl
theorem zz45_iter4 (N : Nat) (kX : St → Option (Bool × Unit)) (kO : Nat → St → Option (Bool × Unit)) : ∀ (n : Nat) (a0 : Y4) (b1 : Y4) (i5 : Int), zz45_R4 N n (zz45_E4 kX kO) a0 b1 i5 = zz45_l4 N (zz45_X4 kX) n a0 b1 i5
  | 0, _, _, _ => rfl
  | m + 1, a0, b1, i5 => by
    have hrec : zz45_R4 N m (zz45_E4 kX kO) = (zz45_l4 N (zz45_X4 kX) m) := (funext fun a0 => (funext fun b1 => (funext fun i5 => zz45_iter4 N kX kO m a0 b1 i5)))
    refine (zz45_step4 N m kX kO a0 b1 i5).trans ?_
    rw [hrec]
    rfl
noncomputable abbrev zz45_K4 (N : Nat) : Ex → St → Option (Bool × Unit) := (blockK 0 (seqK ((A_zz45).shape 17) (run (A_zz45) N (codeAt Try.f33 [1, 1, 1])) zz45_z))
noncomputable abbrev zz45_k4 (N : Nat) : St → Option (Bool × Unit) := fun st' => run (A_zz45) N (codeAt Try.f33 [1, 1, 1]) st' zz45_z
theorem zz45_after4 (N : Nat) : zz45_X4 (zz45_k4 N) = zz45_a4 := by kernel_rfl
theorem zz45_in4 (N : Nat) (a0 : Y4) (b1 : Y4) (i5 : Int) : zz45_R4 N N (zz45_K4 N) a0 b1 i5 = zz45_F4 N a0 b1 i5 :=
  have h : zz45_X4 (zz45_k4 N) = (zz45_a4) := zz45_after4 N
  ((iter_ex (fun st => by kernel_rfl) (fun st => by kernel_rfl)).trans (zz45_iter4 N (zz45_k4 N) (fun j st => (zz45_K4 N) (.exit j) st) N a0 b1 i5)).trans (congrArg (fun k => zz45_l4 N k N a0 b1 i5) h)
theorem run0_zz45 (N : Nat) (x : (S_zz45).a.den) : runF (A_zz45) N Try.f33 S_zz45 x = (zz45_s (zz45_R4 N N (zz45_K4 N)) x.1 x.2.1) := by kernel_rfl
theorem run_zz45 (N : Nat) (x : (S_zz45).a.den) : runF (A_zz45) N Try.f33 S_zz45 x = zz45 N x.1 x.2.1 := by
  refine (run0_zz45 N x).trans ?_
  rw [(funext fun a0 => (funext fun b1 => (funext fun i5 => zz45_in4 N a0 b1 i5)))]
  rfl
theorem fn_zz45 : FnOk Try.prog 33 := ⟨_, Try.func33, by kernel_rfl, by kernel_rfl⟩
theorem good_zz45 : Gx.Good Try.prog 33 S_zz45 := good_of_run Try.func33 (of_decide_eq_true (by kernel_rfl)) fun x r h => ⟨A_zz45, big, mkCfg_ok tabOk, mkCfg_sigs (show SigsOk Try.prog [] from trivial), (run_zz45 big x).trans h⟩

/-! zz46 -/
def zz46_b4 (rec : Y3 → Y3 → Int → Option (Bool × Unit)) (k : Option (Bool × Unit)) (a0 : Y3) (b1 : Y3) (i5 : Int) : Option (Bool × Unit) :=
  cond (decide (i5 < (a0.length : Int)))
  ((atI a0 i5).bind fun xq1 =>
  (atI b1 i5).bind fun xq2 =>
  (zz45 big xq1 xq2).bind fun rq3 =>
  cond (!rq3.1)
  (some (false, (())))
  (rec a0 b1 (IntKind.i64.wrap (i5 + (1 : Int)))))
  (k)
def zz46_a4 : Option (Bool × Unit) :=
  some (true, (()))
def zz46_s (L4 : Y3 → Y3 → Int → Option (Bool × Unit)) (a_0 : Y3) (b_1 : Y3) : Option (Bool × Unit) :=
  cond (decide ((a_0.length : Int) ≠ (b_1.length : Int)))
  (some (false, (())))
  (L4 a_0 b_1 (0 : Int))
def zz46_l4 (N : Nat) (k : Option (Bool × Unit)) : Nat → Y3 → Y3 → Int → Option (Bool × Unit)
  | 0, _, _, _ => none
  | m + 1, a0, b1, i5 => zz46_b4 (zz46_l4 N k m) k a0 b1 i5
def zz46_F4 (N : Nat) (a0 : Y3) (b1 : Y3) (i5 : Int) : Option (Bool × Unit) := zz46_l4 N (zz46_a4) N a0 b1 i5
def zz46 (N : Nat) (a_0 : Y3) (b_1 : Y3) : Option (Bool × Unit) := zz46_s (zz46_F4 N) a_0 b_1
def S_zz46 : Sig := { a := (.pair (.sl (.sl I)) (.pair (.sl (.sl I)) .unit)), md := [0, 0], mf := [], m := .unit, r := .bool, rf := .i, f := fun x => zz46 big x.1 x.2.1 }
def A_zz46 : Cfg := mkCfg tab [(33, S_zz45)] [(8, [.as (.sl (.sl I)) .i, .as (.sl (.sl I)) .i, .drop, .drop, .drop, .as I .i]), (17, [])]
noncomputable def zz46_R4 (N n : Nat) (K : Ex → St → Option (Bool × Unit)) (a0 : Y3) (b1 : Y3) (i5 : Int) : Option (Bool × Unit) := iter ((A_zz46).shape 8) (run (A_zz46) N (codeAt Try.f11 [1, 1, 0, 1, 0, 0])) n ([.val (.sl (.sl I)) .i a0, .val (.sl (.sl I)) .i b1, .u, .u, .u, .val I .i i5] ++ List.replicate 21 .u) K
noncomputable abbrev zz46_z : Ex → St → Option (Bool × Unit) := finish (A_zz46) S_zz46 Try.f11.results.toList
noncomputable abbrev zz46_X4 (kX : St → Option (Bool × Unit)) : Option (Bool × Unit) := kX ([] ++ List.replicate 27 .u)
noncomputable abbrev zz46_E4 (kX : St → Option (Bool × Unit)) (kO : Nat → St → Option (Bool × Unit)) : Ex → St → Option (Bool × Unit) := exK zz46_z 0 ((A_zz46).shape 17) kX kO
theorem zz46_step4 (N : Nat) (m : Nat) (kX : St → Option (Bool × Unit)) (kO : Nat → St → Option (Bool × Unit)) (a0 : Y3) (b1 : Y3) (i5 : Int) : zz46_R4 N (m + 1) (zz46_E4 kX kO) a0 b1 i5 = zz46_b4 (zz46_R4 N m (zz46_E4 kX kO)) (zz46_X4 kX) a0 b1 i5 := by kernel_rfl
theorem zz46_iter4 (N : Nat) (kX : St → Option (Bool × Unit)) (kO : Nat → St → Option (Bool × Unit)) : ∀ (n : Nat) (a0 : Y3) (b1 : Y3) (i5 : Int), zz46_R4 N n (zz46_E4 kX kO) a0 b1 i5 = zz46_l4 N (zz46_X4 kX) n a0 b1 i5
  | 0, _, _, _ => rfl
  | m + 1, a0, b1, i5 => by
    have hrec : zz46_R4 N m (zz46_E4 kX kO) = (zz46_l4 N (zz46_X4 kX) m) := (funext fun a0 => (funext fun b1 => (funext fun i5 => zz46_iter4 N kX kO m a0 b1 i5)))
    refine (zz46_step4 N m kX kO a0 b1 i5).trans ?_
    rw [hrec]
    rfl
noncomputable abbrev zz46_K4 (N : Nat) : Ex → St → Option (Bool × Unit) := (blockK 0 (seqK ((A_zz46).shape 17) (run (A_zz46) N (codeAt Try.f11 [1, 1, 1])) zz46_z))
noncomputable abbrev zz46_k4 (N : Nat) : St → Option (Bool × Unit) := fun st' => run (A_zz46) N (codeAt Try.f11 [1, 1, 1]) st' zz46_z
theorem zz46_after4 (N : Nat) : zz46_X4 (zz46_k4 N) = zz46_a4 := by kernel_rfl
theorem zz46_in4 (N : Nat) (a0 : Y3) (b1 : Y3) (i5 : Int) : zz46_R4 N N (zz46_K4 N) a0 b1 i5 = zz46_F4 N a0 b1 i5 :=
  have h : zz46_X4 (zz46_k4 N) = (zz46_a4) := zz46_after4 N
  ((iter_ex (fun st => by kernel_rfl) (fun st => by kernel_rfl)).trans (zz46_iter4 N (zz46_k4 N) (fun j st => (zz46_K4 N) (.exit j) st) N a0 b1 i5)).trans (congrArg (fun k => zz46_l4 N k N a0 b1 i5) h)
theorem run0_zz46 (N : Nat) (x : (S_zz46).a.den) : runF (A_zz46) N Try.f11 S_zz46 x = (zz46_s (zz46_R4 N N (zz46_K4 N)) x.1 x.2.1) := by kernel_rfl
theorem run_zz46 (N : Nat) (x : (S_zz46).a.den) : runF (A_zz46) N Try.f11 S_zz46 x = zz46 N x.1 x.2.1 := by
  refine (run0_zz46 N x).trans ?_
  rw [(funext fun a0 => (funext fun b1 => (funext fun i5 => zz46_in4 N a0 b1 i5)))]
  rfl
theorem fn_zz46 : FnOk Try.prog 11 := ⟨_, Try.func11, by kernel_rfl, by kernel_rfl⟩
theorem good_zz46 : Gx.Good Try.prog 11 S_zz46 := good_of_run Try.func11 (of_decide_eq_true (by kernel_rfl)) fun x r h => ⟨A_zz46, big, mkCfg_ok tabOk, mkCfg_sigs (show SigsOk Try.prog [(33, S_zz45)] from ⟨⟨fn_zz45, good_zz45⟩, trivial⟩), (run_zz46 big x).trans h⟩

/-! zz47 -/
def zz47_s (a_0 : Y2) (b_1 : Y2) : Option (Bool × Unit) :=
  (zz46 big a_0.1 b_1.1).bind fun rq1 =>
  cond (!rq1.1)
  (some (false, (())))
  (some (true, (())))
def zz47 (a_0 : Y2) (b_1 : Y2) : Option (Bool × Unit) := zz47_s a_0 b_1
def S_zz47 : Sig := { a := (.pair (.pair (.sl (.sl I)) .unit) (.pair (.pair (.sl (.sl I)) .unit) .unit)), md := [0, 0], mf := [], m := .unit, r := .bool, rf := .i, f := fun x => zz47 x.1 x.2.1 }
def A_zz47 : Cfg := mkCfg tab [(11, S_zz46)] []
theorem run_zz47 (N : Nat) (x : (S_zz47).a.den) : runF (A_zz47) N Try.f12 S_zz47 x = zz47 x.1 x.2.1 := by kernel_rfl
theorem fn_zz47 : FnOk Try.prog 12 := ⟨_, Try.func12, by kernel_rfl, by kernel_rfl⟩
theorem good_zz47 : Gx.Good Try.prog 12 S_zz47 := good_of_run Try.func12 (of_decide_eq_true (by kernel_rfl)) fun x r h => ⟨A_zz47, big, mkCfg_ok tabOk, mkCfg_sigs (show SigsOk Try.prog [(11, S_zz46)] from ⟨⟨fn_zz46, good_zz46⟩, trivial⟩), (run_zz47 big x).trans h⟩

/-! zz48 -/
def zz48_b2 (rec : Y4 → Int → Int → Option Y6) (k : Y4 → Int → Option Y6) (a0 : Y4) (k1 : Int) (i5 : Int) : Option Y6 :=
  cond (decide (i5 < (a0.length : Int)))
  ((atI a0 i5).bind fun _ =>
  (a0[i5.toNat]?).bind fun xq1 =>
  rec (a0.set i5.toNat k1) (IntKind.i64.wrap (k1 + (1 : Int))) (IntKind.i64.wrap (i5 + (1 : Int))))
  (k a0 k1)
def zz48_a2 (a0 : Y4) (k1 : Int) : Option Y6 :=
  some (k1, (a0, ()))
def zz48_s (L2 : Y4 → Int → Int → Option Y6) (a_0 : Y4) (k_1 : Int) : Option Y6 :=
  L2 a_0 k_1 (0 : Int)
def zz48_l2 (N : Nat) (k : Y4 → Int → Option Y6) : Nat → Y4 → Int → Int → Option Y6
  | 0, _, _, _ => none
  | m + 1, a0, k1, i5 => zz48_b2 (zz48_l2 N k m) k a0 k1 i5
def zz48_F2 (N : Nat) (a0 : Y4) (k1 : Int) (i5 : Int) : Option Y6 := zz48_l2 N (zz48_a2) N a0 k1 i5
def zz48 (N : Nat) (a_0 : Y4) (k_1 : Int) : Option Y6 := zz48_s (zz48_F2 N) a_0 k_1
def S_zz48 : Sig := { a := (.pair (.sl I) (.pair I .unit)), md := [1, 0], mf := [(.o .i)], m := (.pair (.sl I) .unit), r := I, rf := .i, f := fun x => zz48 big x.1 x.2.1 }
def A_zz48 : Cfg := mkCfg tab [] [(4, [.as (.sl I) (.o .i), .as I .i, .drop, .drop, .drop, .as I .i]), (13, [.as (.sl I) (.o .i), .as I .i])]
noncomputable def zz48_R2 (N n : Nat) (K : Ex → St → Option Y6) (a0 : Y4) (k1 : Int) (i5 : Int) : Option Y6 := iter ((A_zz48).shape 4) (run (A_zz48) N (codeAt Try.f34 [1, 0, 1, 0, 0])) n ([.val (.sl I) (.o .i) a0, .val I .i k1, .u, .u, .u, .val I .i i5] ++ List.replicate 13 .u) K
noncomputable abbrev zz48_z : Ex → St → Option Y6 := finish (A_zz48) S_zz48 Try.f34.results.toList
noncomputable abbrev zz48_X2 (kX : St → Option Y6) : Y4 → Int → Option Y6 := fun (a0 : Y4) (k1 : Int) => kX ([.val (.sl I) (.o .i) a0, .val I .i k1] ++ List.replicate 17 .u)
noncomputable abbrev zz48_E2 (kX : St → Option Y6) (kO : Nat → St → Option Y6) : Ex → St → Option Y6 := exK zz48_z 0 ((A_zz48).shape 13) kX kO
theorem zz48_step2 (N : Nat) (m : Nat) (kX : St → Option Y6) (kO : Nat → St → Option Y6) (a0 : Y4) (k1 : Int) (i5 : Int) : zz48_R2 N (m + 1) (zz48_E2 kX kO) a0 k1 i5 = zz48_b2 (zz48_R2 N m (zz48_E2 kX kO)) (zz48_X2 kX) a0 k1 i5 := by kernel_rfl
theorem zz48_iter2 (N : Nat) (kX : St → Option Y6) (kO : Nat → St → Option Y6) : ∀ (n : Nat) (a0 : Y4) (k1 : Int) (i5 : Int), zz48_R2 N n (zz48_E2 kX kO) a0 k1 i5 = zz48_l2 N (zz48_X2 kX) n a0 k1 i5
  | 0, _, _, _ => rfl
  | m + 1, a0, k1, i5 => by
    have hrec : zz48_R2 N m (zz48_E2 kX kO) = (zz48_l2 N (zz48_X2 kX) m) := (funext fun a0 => (funext fun k1 => (funext fun i5 => zz48_iter2 N kX kO m a0 k1 i5)))
    refine (zz48_step2 N m kX kO a0 k1 i5).trans ?_
    rw [hrec]
    rfl
noncomputable abbrev zz48_K2 (N : Nat) : Ex → St → Option Y6 := (blockK 0 (seqK ((A_zz48).shape 13) (run (A_zz48) N (codeAt Try.f34 [1, 1])) zz48_z))
noncomputable abbrev zz48_k2 (N : Nat) : St → Option Y6 := fun st' => run (A_zz48) N (codeAt Try.f34 [1, 1]) st' zz48_z
theorem zz48_after2 (N : Nat) (a0 : Y4) (k1 : Int) : zz48_X2 (zz48_k2 N) a0 k1 = zz48_a2 a0 k1 := by kernel_rfl
theorem zz48_in2 (N : Nat) (a0 : Y4) (k1 : Int) (i5 : Int) : zz48_R2 N N (zz48_K2 N) a0 k1 i5 = zz48_F2 N a0 k1 i5 :=
  have h : zz48_X2 (zz48_k2 N) = (zz48_a2) := (funext fun a0 => (funext fun k1 => zz48_after2 N a0 k1))
  ((iter_ex (fun st => by kernel_rfl) (fun st => by kernel_rfl)).trans (zz48_iter2 N (zz48_k2 N) (fun j st => (zz48_K2 N) (.exit j) st) N a0 k1 i5)).trans (congrArg (fun k => zz48_l2 N k N a0 k1 i5) h)
theorem run0_zz48 (N : Nat) (x : (S_zz48).a.den) : runF (A_zz48) N Try.f34 S_zz48 x = (zz48_s (zz48_R2 N N (zz48_K2 N)) x.1 x.2.1) := by kernel_rfl
theorem run_zz48 (N : Nat) (x : (S_zz48).a.den) : runF (A_zz48) N Try.f34 S_zz48 x = zz48 N x.1 x.2.1 := by
  refine (run0_zz48 N x).trans ?_
  rw [(funext fun a0 => (funext fun k1 => (funext fun i5 => zz48_in2 N a0 k1 i5)))]
  rfl
theorem fn_zz48 : FnOk Try.prog 34 := ⟨_, Try.func34, by kernel_rfl, by kernel_rfl⟩
theorem good_zz48 : Gx.Good Try.prog 34 S_zz48 := good_of_run Try.func34 (of_decide_eq_true (by kernel_rfl)) fun x r h => ⟨A_zz48, big, mkCfg_ok tabOk, mkCfg_sigs (show SigsOk Try.prog [] from trivial), (run_zz48 big x).trans h⟩

/-! zz49 -/
def zz49_b2 (rec : Y3 → Int → Int → Option (Int × Y2)) (k : Y3 → Int → Option (Int × Y2)) (a0 : Y3) (k1 : Int) (i5 : Int) : Option (Int × Y2) :=
  cond (decide (i5 < (a0.length : Int)))
  ((atI a0 i5).bind fun _ =>
  (a0[i5.toNat]?).bind fun xq1 =>
  (a0[i5.toNat]?).bind fun xq2 =>
  (zz48 big xq2 k1).bind fun rq3 =>
  (a0[i5.toNat]?).bind fun xq4 =>
  (a0[i5.toNat]?).bind fun xq5 =>
  rec (a0.set i5.toNat rq3.2.1) rq3.1 (IntKind.i64.wrap (i5 + (1 : Int))))
  (k a0 k1)
def zz49_a2 (a0 : Y3) (k1 : Int) : Option (Int × Y2) :=
  some (k1, (a0, ()))
def zz49_s (L2 : Y3 → Int → Int → Option (Int × Y2)) (a_0 : Y3) (k_1 : Int) : Option (Int × Y2) :=
  L2 a_0 k_1 (0 : Int)
def zz49_l2 (N : Nat) (k : Y3 → Int → Option (Int × Y2)) : Nat → Y3 → Int → Int → Option (Int × Y2)
  | 0, _, _, _ => none
  | m + 1, a0, k1, i5 => zz49_b2 (zz49_l2 N k m) k a0 k1 i5
def zz49_F2 (N : Nat) (a0 : Y3) (k1 : Int) (i5 : Int) : Option (Int × Y2) := zz49_l2 N (zz49_a2) N a0 k1 i5
def zz49 (N : Nat) (a_0 : Y3) (k_1 : Int) : Option (Int × Y2) := zz49_s (zz49_F2 N) a_0 k_1
def S_zz49 : Sig := { a := (.pair (.sl (.sl I)) (.pair I .unit)), md := [1, 0], mf := [(.o (.o .i))], m := (.pair (.sl (.sl I)) .unit), r := I, rf := .i, f := fun x => zz49 big x.1 x.2.1 }
def A_zz49 : Cfg := mkCfg tab [(34, S_zz48)] [(4, [.as (.sl (.sl I)) (.o (.o .i)), .as I .i, .drop, .drop, .drop, .as I .i]), (11, [.as (.sl (.sl I)) (.o (.o .i)), .as I .i])]
noncomputable def zz49_R2 (N n : Nat) (K : Ex → St → Option (Int × Y2)) (a0 : Y3) (k1 : Int) (i5 : Int) : Option (Int × Y2) := iter ((A_zz49).shape 4) (run (A_zz49) N (codeAt Try.f14 [1, 0, 1, 0, 0])) n ([.val (.sl (.sl I)) (.o (.o .i)) a0, .val I .i k1, .u, .u, .u, .val I .i i5] ++ List.replicate 13 .u) K
noncomputable abbrev zz49_z : Ex → St → Option (Int × Y2) := finish (A_zz49) S_zz49 Try.f14.results.toList
noncomputable abbrev zz49_X2 (kX : St → Option (Int × Y2)) : Y3 → Int → Option (Int × Y2) := fun (a0 : Y3) (k1 : Int) => kX ([.val (.sl (.sl I)) (.o (.o .i)) a0, .val I .i k1] ++ List.replicate 17 .u)
noncomputable abbrev zz49_E2 (kX : St → Option (Int × Y2)) (kO : Nat → St → Option (Int × Y2)) : Ex → St → Option (Int × Y2) := exK zz49_z 0 ((A_zz49).shape 11) kX kO
theorem zz49_step2 (N : Nat) (m : Nat) (kX : St → Option (Int × Y2)) (kO : Nat → St → Option (Int × Y2)) (a0 : Y3) (k1 : Int) (i5 : Int) : zz49_R2 N (m + 1) (zz49_E2 kX kO) a0 k1 i5 = zz49_b2 (zz49_R2 N m (zz49_E2 kX kO)) (zz49_X2 kX) a0 k1 i5 := by kernel_rfl
theorem zz49_iter2 (N : Nat) (kX : St → Option (Int × Y2)) (kO : Nat → St → Option (Int × Y2)) : ∀ (n : Nat) (a0 : Y3) (k1 : Int) (i5 : Int), zz49_R2 N n (zz49_E2 kX kO) a0 k1 i5 = zz49_l2 N (zz49_X2 kX) n a0 k1 i5
  | 0, _, _, _ => rfl
  | m + 1, a0, k1, i5 => by
    have hrec : zz49_R2 N m (zz49_E2 kX kO) = (zz49_l2 N (zz49_X2 kX) m) := (funext fun a0 => (funext fun k1 => (funext fun i5 => zz49_iter2 N kX kO m a0 k1 i5)))
    refine (zz49_step2 N m kX kO a0 k1 i5).trans ?_
    rw [hrec]
    rfl
noncomputable abbrev zz49_K2 (N : Nat) : Ex → St → Option (Int × Y2) := (blockK 0 (seqK ((A_zz49).shape 11) (run (A_zz49) N (codeAt Try.f14 [1, 1])) zz49_z))
noncomputable abbrev zz49_k2 (N : Nat) : St → Option (Int × Y2) := fun st' => run (A_zz49) N (codeAt Try.f14 [1, 1]) st' zz49_z
theorem zz49_after2 (N : Nat) (a0 : Y3) (k1 : Int) : zz49_X2 (zz49_k2 N) a0 k1 = zz49_a2 a0 k1 := by kernel_rfl
theorem zz49_in2 (N : Nat) (a0 : Y3) (k1 : Int) (i5 : Int) : zz49_R2 N N (zz49_K2 N) a0 k1 i5 = zz49_F2 N a0 k1 i5 :=
  have h : zz49_X2 (zz49_k2 N) = (zz49_a2) := (funext fun a0 => (funext fun k1 => zz49_after2 N a0 k1))
  ((iter_ex (fun st => by kernel_rfl) (fun st => by kernel_rfl)).trans (zz49_iter2 N (zz49_k2 N) (fun j st => (zz49_K2 N) (.exit j) st) N a0 k1 i5)).trans (congrArg (fun k => zz49_l2 N k N a0 k1 i5) h)
theorem run0_zz49 (N : Nat) (x : (S_zz49).a.den) : runF (A_zz49) N Try.f14 S_zz49 x = (zz49_s (zz49_R2 N N (zz49_K2 N)) x.1 x.2.1) := by kernel_rfl
theorem run_zz49 (N : Nat) (x : (S_zz49).a.den) : runF (A_zz49) N Try.f14 S_zz49 x = zz49 N x.1 x.2.1 := by
  refine (run0_zz49 N x).trans ?_
  rw [(funext fun a0 => (funext fun k1 => (funext fun i5 => zz49_in2 N a0 k1 i5)))]
  rfl
theorem fn_zz49 : FnOk Try.prog 14 := ⟨_, Try.func14, by kernel_rfl, by kernel_rfl⟩
theorem good_zz49 : Gx.Good Try.prog 14 S_zz49 := good_of_run Try.func14 (of_decide_eq_true (by kernel_rfl)) fun x r h => ⟨A_zz49, big, mkCfg_ok tabOk, mkCfg_sigs (show SigsOk Try.prog [(34, S_zz48)] from ⟨⟨fn_zz48, good_zz48⟩, trivial⟩), (run_zz49 big x).trans h⟩

/-! zz50 -/
def zz50 (a_0 : Y2) (k_1 : Int) : Option (Int × (Y2 × Unit)) := (zz49 big a_0.1 k_1).bind fun r => some (r.1, ((r.2.1, ()), ()))
def S_zz50 : Sig := { a := (.pair (.pair (.sl (.sl I)) .unit) (.pair I .unit)), md := [1, 0], mf := [(.p (.o (.o .i)) .i)], m := (.pair (.pair (.sl (.sl I)) .unit) .unit), r := I, rf := .i, f := fun x => zz50 x.1 x.2.1 }
theorem fn_zz50 : FnOk Try.prog 13 := ⟨_, Try.func13, by kernel_rfl, by kernel_rfl⟩
theorem good_zz50 : Gx.Good Try.prog 13 S_zz50   := good_bx1 (A := mkCfg tab [] []) (T := 28) (TS := 22) (mkCfg_ok tabOk) Try.func13 (by kernel_rfl) (by kernel_rfl) fn_zz49 (by kernel_rfl) (by kernel_rfl) good_zz49

/-! zz51 -/
def zz51_b2 (rec : Y4 → Int → Int → Option (Int × Unit)) (k : Int → Option (Int × Unit)) (a0 : Y4) (k1 : Int) (i5 : Int) : Option (Int × Unit) :=
  cond (decide (i5 < (a0.length : Int)))
  ((atI a0 i5).bind fun xq1 =>
  cond (decide (xq1 ≠ k1))
  (some ((-1 : Int), (())))
  (rec a0 (IntKind.i64.wrap (k1 + (1 : Int))) (IntKind.i64.wrap (i5 + (1 : Int)))))
  (k k1)
def zz51_a2 (k1 : Int) : Option (Int × Unit) :=
  some (k1, (()))
def zz51_s (L2 : Y4 → Int → Int → Option (Int × Unit)) (a_0 : Y4) (k_1 : Int) : Option (Int × Unit) :=
  L2 a_0 k_1 (0 : Int)
def zz51_l2 (N : Nat) (k : Int → Option (Int × Unit)) : Nat → Y4 → Int → Int → Option (Int × Unit)
  | 0, _, _, _ => none
  | m + 1, a0, k1, i5 => zz51_b2 (zz51_l2 N k m) k a0 k1 i5
def zz51_F2 (N : Nat) (a0 : Y4) (k1 : Int) (i5 : Int) : Option (Int × Unit) := zz51_l2 N (zz51_a2) N a0 k1 i5
def zz51 (N : Nat) (a_0 : Y4) (k_1 : Int) : Option (Int × Unit) := zz51_s (zz51_F2 N) a_0 k_1
def S_zz51 : Sig := { a := (.pair (.sl I) (.pair I .unit)), md := [0, 0], mf := [], m := .unit, r := I, rf := .i, f := fun x => zz51 big x.1 x.2.1 }
def A_zz51 : Cfg := mkCfg tab [] [(4, [.as (.sl I) .i, .as I .i, .drop, .drop, .drop, .as I .i]), (15, [.drop, .as I .i])]
noncomputable def zz51_R2 (N n : Nat) (K : Ex → St → Option (Int × Unit)) (a0 : Y4) (k1 : Int) (i5 : Int) : Option (Int × Unit) := iter ((A_zz51).shape 4) (run (A_zz51) N (codeAt Try.f35 [1, 0, 1, 0, 0])) n ([.val (.sl I) .i a0, .val I .i k1, .u, .u, .u, .val I .i i5] ++ List.replicate 15 .u) K
noncomputable abbrev zz51_z : Ex → St → Option (Int × Unit) := finish (A_zz51) S_zz51 Try.f35.results.toList
noncomputable abbrev zz51_X2 (kX : St → Option (Int × Unit)) : Int → Option (Int × Unit) := fun (k1 : Int) => kX ([.u, .val I .i k1] ++ List.replicate 19 .u)
noncomputable abbrev zz51_E2 (kX : St → Option (Int × Unit)) (kO : Nat → St → Option (Int × Unit)) : Ex → St → Option (Int × Unit) := exK zz51_z 0 ((A_zz51).shape 15) kX kO
theorem zz51_step2 (N : Nat) (m : Nat) (kX : St → Option (Int × Unit)) (kO : Nat → St → Option (Int × Unit)) (a0 : Y4) (k1 : Int) (i5 : Int) : zz51_R2 N (m + 1) (zz51_E2 kX kO) a0 k1 i5 = zz51_b2 (zz51_R2 N m (zz51_E2 kX kO)) (zz51_X2 kX) a0 k1 i5 := by kernel_rfl
theorem zz51_iter2 (N : Nat) (kX : St → Option (Int × Unit)) (kO : Nat → St → Option (Int × Unit)) : ∀ (n : Nat) (a0 : Y4) (k1 : Int) (i5 : Int), zz51_R2 N n (zz51_E2 kX kO) a0 k1 i5 = zz51_l2 N (zz51_X2 kX) n a0 k1 i5
  | 0, _, _, _ => rfl
  | m + 1, a0, k1, i5 => by
    have hrec : zz51_R2 N m (zz51_E2 kX kO) = (zz51_l2 N (zz51_X2 kX) m) := (funext fun a0 => (funext fun k1 => (funext fun i5 => zz51_iter2 N kX kO m a0 k1 i5)))
    refine (zz51_step2 N m kX kO a0 k1 i5).trans ?_
    rw [hrec]
    rfl
noncomputable abbrev zz51_K2 (N : Nat) : Ex → St → Option (Int × Unit) := (blockK 0 (seqK ((A_zz51).shape 15) (run (A_zz51) N (codeAt Try.f35 [1, 1])) zz51_z))
noncomputable abbrev zz51_k2 (N : Nat) : St → Option (Int × Unit) := fun st' => run (A_zz51) N (codeAt Try.f35 [1, 1]) st' zz51_z
theorem zz51_after2 (N : Nat) (k1 : Int) : zz51_X2 (zz51_k2 N) k1 = zz51_a2 k1 := by kernel_rfl
theorem zz51_in2 (N : Nat) (a0 : Y4) (k1 : Int) (i5 : Int) : zz51_R2 N N (zz51_K2 N) a0 k1 i5 = zz51_F2 N a0 k1 i5 :=
  have h : zz51_X2 (zz51_k2 N) = (zz51_a2) := (funext fun k1 => zz51_after2 N k1)
  ((iter_ex (fun st => by kernel_rfl) (fun st => by kernel_rfl)).trans (zz51_iter2 N (zz51_k2 N) (fun j st => (zz51_K2 N) (.exit j) st) N a0 k1 i5)).trans (congrArg (fun k => zz51_l2 N k N a0 k1 i5) h)
theorem run0_zz51 (N : Nat) (x : (S_zz51).a.den) : runF (A_zz51) N Try.f35 S_zz51 x = (zz51_s (zz51_R2 N N (zz51_K2 N)) x.1 x.2.1) := by kernel_rfl
theorem run_zz51 (N : Nat) (x : (S_zz51).a.den) : runF (A_zz51) N Try.f35 S_zz51 x = zz51 N x.1 x.2.1 := by
  refine (run0_zz51 N x).trans ?_
  rw [(funext fun a0 => (funext fun k1 => (funext fun i5 => zz51_in2 N a0 k1 i5)))]
  rfl
theorem fn_zz51 : FnOk Try.prog 35 := ⟨_, Try.func35, by kernel_rfl, by kernel_rfl⟩
theorem good_zz51 : Gx.Good Try.prog 35 S_zz51 := good_of_run Try.func35 (of_decide_eq_true (by kernel_rfl)) fun x r h => ⟨A_zz51, big, mkCfg_ok tabOk, mkCfg_sigs (show SigsOk Try.prog [] from trivial), (run_zz51 big x).trans h⟩

/-! zz52 -/
def zz52_b2 (rec : Y3 → Int → Int → Option (Int × Unit)) (k : Int → Option (Int × Unit)) (a0 : Y3) (k1 : Int) (i5 : Int) : Option (Int × Unit) :=
  cond (decide (i5 < (a0.length : Int)))
  ((atI a0 i5).bind fun xq1 =>
  (zz51 big xq1 k1).bind fun rq2 =>
  cond (decide (rq2.1 < (0 : Int)))
  (some ((-1 : Int), (())))
  (rec a0 rq2.1 (IntKind.i64.wrap (i5 + (1 : Int)))))
  (k k1)
def zz52_a2 (k1 : Int) : Option (Int × Unit) :=
  some (k1, (()))
def zz52_s (L2 : Y3 → Int → Int → Option (Int × Unit)) (a_0 : Y3) (k_1 : Int) : Option (Int × Unit) :=
  L2 a_0 k_1 (0 : Int)
def zz52_l2 (N : Nat) (k : Int → Option (Int × Unit)) : Nat → Y3 → Int → Int → Option (Int × Unit)
  | 0, _, _, _ => none
  | m + 1, a0, k1, i5 => zz52_b2 (zz52_l2 N k m) k a0 k1 i5
def zz52_F2 (N : Nat) (a0 : Y3) (k1 : Int) (i5 : Int) : Option (Int × Unit) := zz52_l2 N (zz52_a2) N a0 k1 i5
def zz52 (N : Nat) (a_0 : Y3) (k_1 : Int) : Option (Int × Unit) := zz52_s (zz52_F2 N) a_0 k_1
def S_zz52 : Sig := { a := (.pair (.sl (.sl I)) (.pair I .unit)), md := [0, 0], mf := [], m := .unit, r := I, rf := .i, f := fun x => zz52 big x.1 x.2.1 }
def A_zz52 : Cfg := mkCfg tab [(35, S_zz51)] [(4, [.as (.sl (.sl I)) .i, .as I .i, .drop, .drop, .drop, .as I .i]), (15, [.drop, .as I .i])]
noncomputable def zz52_R2 (N n : Nat) (K : Ex → St → Option (Int × Unit)) (a0 : Y3) (k1 : Int) (i5 : Int) : Option (Int × Unit) := iter ((A_zz52).shape 4) (run (A_zz52) N (codeAt Try.f15 [1, 0, 1, 0, 0])) n ([.val (.sl (.sl I)) .i a0, .val I .i k1, .u, .u, .u, .val I .i i5] ++ List.replicate 15 .u) K
noncomputable abbrev zz52_z : Ex → St → Option (Int × Unit) := finish (A_zz52) S_zz52 Try.f15.results.toList
noncomputable abbrev zz52_X2 (kX : St → Option (Int × Unit)) : Int → Option (Int × Unit) := fun (k1 : Int) => kX ([.u, .val I .i k1] ++ List.replicate 19 .u)
noncomputable abbrev zz52_E2 (kX : St → Option (Int × Unit)) (kO : Nat → St → Option (Int × Unit)) : Ex → St → Option (Int × Unit) := exK zz52_z 0 ((A_zz52).shape 15) kX kO
theorem zz52_step2 (N : Nat) (m : Nat) (kX : St → Option (Int × Unit)) (kO : Nat → St → Option (Int × Unit)) (a0 : Y3) (k1 : Int) (i5 : Int) : zz52_R2 N (m + 1) (zz52_E2 kX kO) a0 k1 i5 = zz52_b2 (zz52_R2 N m (zz52_E2 kX kO)) (zz52_X2 kX) a0 k1 i5 := by kernel_rfl
theorem zz52_iter2 (N : Nat) (kX : St → Option (Int × Unit)) (kO : Nat → St → Option (Int × Unit)) : ∀ (n : Nat) (a0 : Y3) (k1 : Int) (i5 : Int), zz52_R2 N n (zz52_E2 kX kO) a0 k1 i5 = zz52_l2 N (zz52_X2 kX) n a0 k1 i5
  | 0, _, _, _ => rfl
  | m + 1, a0, k1, i5 => by
    have hrec : zz52_R2 N m (zz52_E2 kX kO) = (zz52_l2 N (zz52_X2 kX) m) := (funext fun a0 => (funext fun k1 => (funext fun i5 => zz52_iter2 N kX kO m a0 k1 i5)))
    refine (zz52_step2 N m kX kO a0 k1 i5).trans ?_
    rw [hrec]
    rfl
noncomputable abbrev zz52_K2 (N : Nat) : Ex → St → Option (Int × Unit) := (blockK 0 (seqK ((A_zz52).shape 15) (run (A_zz52) N (codeAt Try.f15 [1, 1])) zz52_z))
noncomputable abbrev zz52_k2 (N : Nat) : St → Option (Int × Unit) := fun st' => run (A_zz52) N (codeAt Try.f15 [1, 1]) st' zz52_z
theorem zz52_after2 (N : Nat) (k1 : Int) : zz52_X2 (zz52_k2 N) k1 = zz52_a2 k1 := by kernel_rfl
theorem zz52_in2 (N : Nat) (a0 : Y3) (k1 : Int) (i5 : Int) : zz52_R2 N N (zz52_K2 N) a0 k1 i5 = zz52_F2 N a0 k1 i5 :=
  have h : zz52_X2 (zz52_k2 N) = (zz52_a2) := (funext fun k1 => zz52_after2 N k1)
  ((iter_ex (fun st => by kernel_rfl) (fun st => by kernel_rfl)).trans (zz52_iter2 N (zz52_k2 N) (fun j st => (zz52_K2 N) (.exit j) st) N a0 k1 i5)).trans (congrArg (fun k => zz52_l2 N k N a0 k1 i5) h)
theorem run0_zz52 (N : Nat) (x : (S_zz52).a.den) : runF (A_zz52) N Try.f15 S_zz52 x = (zz52_s (zz52_R2 N N (zz52_K2 N)) x.1 x.2.1) := by kernel_rfl
theorem run_zz52 (N : Nat) (x : (S_zz52).a.den) : runF (A_zz52) N Try.f15 S_zz52 x = zz52 N x.1 x.2.1 := by
  refine (run0_zz52 N x).trans ?_
  rw [(funext fun a0 => (funext fun k1 => (funext fun i5 => zz52_in2 N a0 k1 i5)))]
  rfl
theorem fn_zz52 : FnOk Try.prog 15 := ⟨_, Try.func15, by kernel_rfl, by kernel_rfl⟩
theorem good_zz52 : Gx.Good Try.prog 15 S_zz52 := good_of_run Try.func15 (of_decide_eq_true (by kernel_rfl)) fun x r h => ⟨A_zz52, big, mkCfg_ok tabOk, mkCfg_sigs (show SigsOk Try.prog [(35, S_zz51)] from ⟨⟨fn_zz51, good_zz51⟩, trivial⟩), (run_zz52 big x).trans h⟩

/-! laws_FnExactUltrafilters -/
def laws_FnExactUltrafilters_s (aP_0 : Y2) : Option (Bool × Unit) :=
  (zz2 aP_0 (1048576 : Int)).bind fun rq1 =>
  cond (decide (rq1.1 < (0 : Int)))
  (some (true, (())))
  ((zz5 aP_0).bind fun rq2 =>
  (zz22 big rq2.1).bind fun rq3 =>
  (zz5 aP_0).bind fun rq4 =>
  (zz44 big rq4.1).bind fun rq5 =>
  (zz46 big rq5.1.1 rq3.1.1).bind fun rq6 =>
  cond (!rq6.1)
  (some (false, (())))
  (cond (((((), rq5.1.2).2).1) != rq3.1.2.1)
  (some (false, (())))
  ((zz5 aP_0).bind fun rq7 =>
  (zz47 rq4.1 rq7.1).bind fun rq8 =>
  cond (!rq8.1)
  (some (false, (())))
  ((zz50 rq4.1 (1 : Int)).bind fun rq9 =>
  cond (decide (rq9.1 < (0 : Int)))
  (some (false, (())))
  ((zz46 big rq5.1.1 rq3.1.1).bind fun rq10 =>
  cond (!rq10.1)
  (some (false, (())))
  (cond (((((), rq5.1.2).2).1) != rq3.1.2.1)
  (some (false, (())))
  ((zz49 big rq5.1.1 (1 : Int)).bind fun rq11 =>
  (zz52 big rq11.2.1 (1 : Int)).bind fun rq12 =>
  cond (decide (rq12.1 < (0 : Int)))
  (some (false, (())))
  (cond (decide (rq12.1 ≠ rq11.1))
  (some (false, (())))
  ((zz5 aP_0).bind fun rq13 =>
  (zz44 big rq13.1).bind fun rq14 =>
  (zz46 big rq14.1.1 rq3.1.1).bind fun rq15 =>
  cond (!rq15.1)
  (some (false, (())))
  (cond (((((), rq14.1.2).2).1) != rq3.1.2.1)
  (some (false, (())))
  ((zz52 big rq11.2.1 (1 : Int)).bind fun rq16 =>
  cond (decide (rq16.1 < (0 : Int)))
  (some (false, (())))
  (cond (decide (rq16.1 ≠ rq11.1))
  (some (false, (())))
  (some (true, (())))))))))))))))
def laws_FnExactUltrafilters (aP_0 : Y2) : Option (Bool × Unit) := laws_FnExactUltrafilters_s aP_0
def S_laws_FnExactUltrafilters : Sig := { a := (.pair (.pair (.sl (.sl I)) .unit) .unit), md := [0], mf := [], m := .unit, r := .bool, rf := .i, f := fun x => laws_FnExactUltrafilters x.1 }
def A_laws_FnExactUltrafilters : Cfg := mkCfg tab [(7, S_zz2), (9, S_zz5), (8, S_zz22), (10, S_zz44), (11, S_zz46), (12, S_zz47), (13, S_zz50), (14, S_zz49), (15, S_zz52)] []
theorem run_laws_FnExactUltrafilters (N : Nat) (x : (S_laws_FnExactUltrafilters).a.den) : runF (A_laws_FnExactUltrafilters) N Try.f3 S_laws_FnExactUltrafilters x = laws_FnExactUltrafilters x.1 := by kernel_rfl
theorem fn_laws_FnExactUltrafilters : FnOk Try.prog 3 := ⟨_, Try.func3, by kernel_rfl, by kernel_rfl⟩
theorem good_laws_FnExactUltrafilters : Gx.Good Try.prog 3 S_laws_FnExactUltrafilters := good_of_run Try.func3 (of_decide_eq_true (by kernel_rfl)) fun x r h => ⟨A_laws_FnExactUltrafilters, big, mkCfg_ok tabOk, mkCfg_sigs (show SigsOk Try.prog [(7, S_zz2), (9, S_zz5), (8, S_zz22), (10, S_zz44), (11, S_zz46), (12, S_zz47), (13, S_zz50), (14, S_zz49), (15, S_zz52)] from ⟨⟨fn_zz2, good_zz2⟩, ⟨fn_zz5, good_zz5⟩, ⟨fn_zz22, good_zz22⟩, ⟨fn_zz44, good_zz44⟩, ⟨fn_zz46, good_zz46⟩, ⟨fn_zz47, good_zz47⟩, ⟨fn_zz50, good_zz50⟩, ⟨fn_zz49, good_zz49⟩, ⟨fn_zz52, good_zz52⟩, trivial⟩), (run_laws_FnExactUltrafilters big x).trans h⟩
end
end Go.Proofs.Ytlndlclemhfekaa
