import Derived.Test.YtcgoaplbnjcboaaGAp1
set_option maxRecDepth 100000
set_option linter.unusedVariables false
namespace Go.Proofs.Ytcgoaplbnjcboaa
open Go Go.Gx Go.Proofs

/-! zz37 -/
def zz37_b4 (self_zz37 : (Y1 × (Y1 × (Y4 × Unit))) → Option ((Option Y4) × (Unit × Unit))) (rec : Y1 → Y1 → Y4 → Int → Int → Option ((Option Y4) × (Unit × Unit))) (k : Y4 → Option ((Option Y4) × (Unit × Unit))) (l0 : Y1) (m1 : Y1) (f2 : Y4) (t23 : Int) (t24 : Int) : Option ((Option Y4) × (Unit × Unit)) :=
  cond (decide (t24 < t23))
  ((zz34 big f2 t24).bind fun rq4 =>
  cond (!rq4.1)
  (rec l0 m1 f2 t23 (IntKind.i64.wrap (t24 + (1 : Int))))
  ((zz35 f2).bind fun rq5 =>
  (appI rq5.1 [t24]).bind fun xq6 =>
  (zz36 big l0 m1 xq6).bind fun rq7 =>
  cond (!rq7.1)
  (rec l0 m1 f2 t23 (IntKind.i64.wrap (t24 + (1 : Int))))
  ((self_zz37 (l0, m1, xq6, ())).bind fun rq8 =>
  cond rq8.1.isSome
  (some (rq8.1, ((), ())))
  (rec l0 m1 f2 t23 (IntKind.i64.wrap (t24 + (1 : Int)))))))
  (k f2)
def zz37_a4 (self_zz37 : (Y1 × (Y1 × (Y4 × Unit))) → Option ((Option Y4) × (Unit × Unit))) (f2 : Y4) : Option ((Option Y4) × (Unit × Unit)) :=
  some (none, ((), ()))
def zz37_s (self_zz37 : (Y1 × (Y1 × (Y4 × Unit))) → Option ((Option Y4) × (Unit × Unit))) (L4 : Y1 → Y1 → Y4 → Int → Int → Option ((Option Y4) × (Unit × Unit))) (l_0 : Y1) (m_1 : Y1) (f_2 : Y4) : Option ((Option Y4) × (Unit × Unit)) :=
  (m_1).bind fun xq1 =>
  cond (decide ((f_2.length : Int) = (xq1.1.length : Int)))
  ((neL f_2).bind fun xq2 =>
  some ((some xq2), ((), ())))
  ((l_0).bind fun xq3 =>
  L4 l_0 m_1 f_2 (xq3.1.length : Int) (0 : Int))
def zz37_l4 (self_zz37 : (Y1 × (Y1 × (Y4 × Unit))) → Option ((Option Y4) × (Unit × Unit))) (N : Nat) (k : Y4 → Option ((Option Y4) × (Unit × Unit))) : Nat → Y1 → Y1 → Y4 → Int → Int → Option ((Option Y4) × (Unit × Unit))
  | 0, _, _, _, _, _ => none
  | m + 1, l0, m1, f2, t23, t24 => zz37_b4 self_zz37 (zz37_l4 self_zz37 N k m) k l0 m1 f2 t23 t24
def zz37_F4 (self_zz37 : (Y1 × (Y1 × (Y4 × Unit))) → Option ((Option Y4) × (Unit × Unit))) (N : Nat) (l0 : Y1) (m1 : Y1) (f2 : Y4) (t23 : Int) (t24 : Int) : Option ((Option Y4) × (Unit × Unit)) := zz37_l4 self_zz37 N (zz37_a4 self_zz37) N l0 m1 f2 t23 t24
def zz37 (self_zz37 : (Y1 × (Y1 × (Y4 × Unit))) → Option ((Option Y4) × (Unit × Unit))) (N : Nat) (l_0 : Y1) (m_1 : Y1) (f_2 : Y4) : Option ((Option Y4) × (Unit × Unit)) := zz37_s self_zz37 (zz37_F4 self_zz37 N) l_0 m_1 f_2
def A_zz37 (self_zz37 : (Y1 × (Y1 × (Y4 × Unit))) → Option ((Option Y4) × (Unit × Unit))) : Cfg := mkCfg tab [(30, S_zz34), (31, S_zz35), (32, S_zz36), (18, T_zz37 self_zz37)] [(8, [.as (.opt (.pair (.sl (.sl .bool)) (.pair (.sl (.sl I)) (.pair (.sl (.sl I)) .unit)))) .i, .as (.opt (.pair (.sl (.sl .bool)) (.pair (.sl (.sl I)) (.pair (.sl (.sl I)) .unit)))) .i, .as (.sl I) (.o .i), .drop, .drop, .drop, .drop, .drop, .drop, .drop, .drop, .drop, .drop, .drop, .drop, .drop, .drop, .drop, .drop, .drop, .drop, .drop, .drop, .as I .i, .as I .i]), (27, [.drop, .drop, .as (.sl I) (.o .i)])]
noncomputable def zz37_R4 (self_zz37 : (Y1 × (Y1 × (Y4 × Unit))) → Option ((Option Y4) × (Unit × Unit))) (N n : Nat) (K : Ex → St → Option ((Option Y4) × (Unit × Unit))) (l0 : Y1) (m1 : Y1) (f2 : Y4) (t23 : Int) (t24 : Int) : Option ((Option Y4) × (Unit × Unit)) := iter ((A_zz37 self_zz37).shape 8) (run (A_zz37 self_zz37) N (codeAt Try.f18 [1, 1, 0, 1, 0, 0])) n ([.val (.opt (.pair (.sl (.sl .bool)) (.pair (.sl (.sl I)) (.pair (.sl (.sl I)) .unit)))) .i l0, .val (.opt (.pair (.sl (.sl .bool)) (.pair (.sl (.sl I)) (.pair (.sl (.sl I)) .unit)))) .i m1, .val (.sl I) (.o .i) f2, .u, .u, .u, .u, .u, .u, .u, .u, .u, .u, .u, .u, .u, .u, .u, .u, .u, .u, .u, .u, .val I .i t23, .val I .i t24] ++ List.replicate 24 .u) K
noncomputable abbrev zz37_z (self_zz37 : (Y1 × (Y1 × (Y4 × Unit))) → Option ((Option Y4) × (Unit × Unit))) : Ex → St → Option ((Option Y4) × (Unit × Unit)) := finish (A_zz37 self_zz37) (T_zz37 self_zz37) Try.f18.results.toList
noncomputable abbrev zz37_X4 (kX : St → Option ((Option Y4) × (Unit × Unit))) : Y4 → Option ((Option Y4) × (Unit × Unit)) := fun (f2 : Y4) => kX ([.u, .u, .val (.sl I) (.o .i) f2] ++ List.replicate 46 .u)
noncomputable abbrev zz37_E4 (self_zz37 : (Y1 × (Y1 × (Y4 × Unit))) → Option ((Option Y4) × (Unit × Unit))) (kX : St → Option ((Option Y4) × (Unit × Unit))) (kO : Nat → St → Option ((Option Y4) × (Unit × Unit))) : Ex → St → Option ((Option Y4) × (Unit × Unit)) := exK (zz37_z self_zz37) 0 ((A_zz37 self_zz37).shape 27) kX kO
theorem zz37_step4 (self_zz37 : (Y1 × (Y1 × (Y4 × Unit))) → Option ((Option Y4) × (Unit × Unit))) (N : Nat) (m : Nat) (kX : St → Option ((Option Y4) × (Unit × Unit))) (kO : Nat → St → Option ((Option Y4) × (Unit × Unit))) (l0 : Y1) (m1 : Y1) (f2 : Y4) (t23 : Int) (t24 : Int) : zz37_R4 self_zz37 N (m + 1) (zz37_E4 self_zz37 kX kO) l0 m1 f2 t23 t24 = zz37_b4 self_zz37 (zz37_R4 self_zz37 N m (zz37_E4 self_zz37 kX kO)) (zz37_X4 kX) l0 m1 f2 t23 t24 := by kernel_rfl
theorem zz37_iter4 (self_zz37 : (Y1 × (Y1 × (Y4 × Unit))) → Option ((Option Y4) × (Unit × Unit))) (N : Nat) (kX : St → Option ((Option Y4) × (Unit × Unit))) (kO : Nat → St → Option ((Option Y4) × (Unit × Unit))) : ∀ (n : Nat) (l0 : Y1) (m1 : Y1) (f2 : Y4) (t23 : Int) (t24 : Int), zz37_R4 self_zz37 N n (zz37_E4 self_zz37 kX kO) l0 m1 f2 t23 t24 = zz37_l4 self_zz37 N (zz37_X4 kX) n l0 m1 f2 t23 t24
  | 0, _, _, _, _, _ => rfl
  | m + 1, l0, m1, f2, t23, t24 => by
    have hrec : zz37_R4 self_zz37 N m (zz37_E4 self_zz37 kX kO) = (zz37_l4 self_zz37 N (zz37_X4 kX) m) := (funext fun l0 => (funext fun m1 => (funext fun f2 => (funext fun t23 => (funext fun t24 => zz37_iter4 self_zz37 N kX kO m l0 m1 f2 t23 t24)))))
    refine (zz37_step4 self_zz37 N m kX kO l0 m1 f2 t23 t24).trans ?_
    rw [hrec]
    rfl
noncomputable abbrev zz37_K4 (self_zz37 : (Y1 × (Y1 × (Y4 × Unit))) → Option ((Option Y4) × (Unit × Unit))) (N : Nat) : Ex → St → Option ((Option Y4) × (Unit × Unit)) := (blockK 0 (seqK ((A_zz37 self_zz37).shape 27) (run (A_zz37 self_zz37) N (codeAt Try.f18 [1, 1, 1])) (zz37_z self_zz37)))
noncomputable abbrev zz37_k4 (self_zz37 : (Y1 × (Y1 × (Y4 × Unit))) → Option ((Option Y4) × (Unit × Unit))) (N : Nat) : St → Option ((Option Y4) × (Unit × Unit)) := fun st' => run (A_zz37 self_zz37) N (codeAt Try.f18 [1, 1, 1]) st' (zz37_z self_zz37)
theorem zz37_after4 (self_zz37 : (Y1 × (Y1 × (Y4 × Unit))) → Option ((Option Y4) × (Unit × Unit))) (N : Nat) (f2 : Y4) : zz37_X4 (zz37_k4 self_zz37 N) f2 = zz37_a4 self_zz37 f2 := by kernel_rfl
theorem zz37_in4 (self_zz37 : (Y1 × (Y1 × (Y4 × Unit))) → Option ((Option Y4) × (Unit × Unit))) (N : Nat) (l0 : Y1) (m1 : Y1) (f2 : Y4) (t23 : Int) (t24 : Int) : zz37_R4 self_zz37 N N (zz37_K4 self_zz37 N) l0 m1 f2 t23 t24 = zz37_F4 self_zz37 N l0 m1 f2 t23 t24 :=
  have h : zz37_X4 (zz37_k4 self_zz37 N) = (zz37_a4 self_zz37) := (funext fun f2 => zz37_after4 self_zz37 N f2)
  ((iter_ex (fun st => by kernel_rfl) (fun st => by kernel_rfl)).trans (zz37_iter4 self_zz37 N (zz37_k4 self_zz37 N) (fun j st => (zz37_K4 self_zz37 N) (.exit j) st) N l0 m1 f2 t23 t24)).trans (congrArg (fun k => zz37_l4 self_zz37 N k N l0 m1 f2 t23 t24) h)
theorem run0_zz37 (self_zz37 : (Y1 × (Y1 × (Y4 × Unit))) → Option ((Option Y4) × (Unit × Unit))) (N : Nat) (x : ((T_zz37 self_zz37)).a.den) : runF (A_zz37 self_zz37) N Try.f18 (T_zz37 self_zz37) x = (zz37_s self_zz37 (zz37_R4 self_zz37 N N (zz37_K4 self_zz37 N)) x.1 x.2.1 x.2.2.1) := by kernel_rfl
theorem run_zz37 (self_zz37 : (Y1 × (Y1 × (Y4 × Unit))) → Option ((Option Y4) × (Unit × Unit))) (N : Nat) (x : ((T_zz37 self_zz37)).a.den) : runF (A_zz37 self_zz37) N Try.f18 (T_zz37 self_zz37) x = zz37 self_zz37 N x.1 x.2.1 x.2.2.1 := by
  refine (run0_zz37 self_zz37 N x).trans ?_
  rw [(funext fun l0 => (funext fun m1 => (funext fun f2 => (funext fun t23 => (funext fun t24 => zz37_in4 self_zz37 N l0 m1 f2 t23 t24)))))]
  rfl
theorem fn_zz37 : FnOk Try.prog 18 := ⟨_, Try.func18, by kernel_rfl, by kernel_rfl⟩

/-! zz38 -/
def R_zz37 : Nat → (Y1 × (Y1 × (Y4 × Unit))) → Option ((Option Y4) × (Unit × Unit))
  | 0, _ => none
  | d + 1, x => zz37 (R_zz37 d) big x.1 x.2.1 x.2.2.1
def S_zz37 : Sig := T_zz37 (R_zz37 big)
theorem goodR_impl_embedLattice : ∀ d, Gx.Good Try.prog 18 (T_zz37 (R_zz37 d))
  | 0 => fun x r h => by cases h
  | d + 1 => good_of_run Try.func18 (of_decide_eq_true (by kernel_rfl)) fun x r h => ⟨A_zz37 (R_zz37 d), big, mkCfg_ok tabOk, mkCfg_sigs (show SigsOk Try.prog [(30, S_zz34), (31, S_zz35), (32, S_zz36), (18, T_zz37 (R_zz37 d))] from ⟨⟨fn_zz34, good_zz34⟩, ⟨fn_zz35, good_zz35⟩, ⟨fn_zz36, good_zz36⟩, ⟨fn_zz37, goodR_impl_embedLattice d⟩, trivial⟩), (run_zz37 (R_zz37 d) big x).trans h⟩
theorem good_zz37 : Gx.Good Try.prog 18 S_zz37 := goodR_impl_embedLattice big

/-! zz39 -/
def zz39_s (p_0 : Y2) (q_1 : Y2) : Option ((Y4 × (Bool × Unit)) × Unit) :=
  (zz33 p_0 q_1).bind fun rq1 =>
  cond (!((((((), rq1.1.2).1, ((), (((), rq1.1.2).2).2)).2).2).1))
  (some (([], false, ()), (())))
  ((R_zz37 big (rq1.1.1, (((), rq1.1.2).2).1, [], ())).bind fun rq2 =>
  cond rq2.1.isNone
  (some (([], false, ()), (())))
  (some (((rq2.1.getD []), true, ()), (()))))
def zz39 (p_0 : Y2) (q_1 : Y2) : Option ((Y4 × (Bool × Unit)) × Unit) := zz39_s p_0 q_1
def S_zz39 : Sig := { a := (.pair (.pair (.sl (.sl I)) .unit) (.pair (.pair (.sl (.sl I)) .unit) .unit)), md := [0, 0], mf := [], m := .unit, r := (.tup (.pair (.sl I) (.pair .bool .unit))), rf := (.p (.o .i) .i), f := fun x => zz39 x.1 x.2.1 }
def A_zz39 : Cfg := mkCfg tab [(17, S_zz33), (18, S_zz37)] []
theorem run_zz39 (N : Nat) (x : (S_zz39).a.den) : runF (A_zz39) N Try.f7 S_zz39 x = zz39 x.1 x.2.1 := by kernel_rfl
theorem fn_zz39 : FnOk Try.prog 7 := ⟨_, Try.func7, by kernel_rfl, by kernel_rfl⟩
theorem good_zz39 : Gx.Good Try.prog 7 S_zz39 := good_of_run Try.func7 (of_decide_eq_true (by kernel_rfl)) fun x r h => ⟨A_zz39, big, mkCfg_ok tabOk, mkCfg_sigs (show SigsOk Try.prog [(17, S_zz33), (18, S_zz37)] from ⟨⟨fn_zz33, good_zz33⟩, ⟨fn_zz37, good_zz37⟩, trivial⟩), (run_zz39 big x).trans h⟩

/-! zz40 -/
def zz40_b4 (rec : Y4 → Y4 → Int → Option (Bool × Unit)) (k : Option (Bool × Unit)) (a0 : Y4) (b1 : Y4) (i5 : Int) : Option (Bool × Unit) :=
  cond (decide (i5 < (a0.length : Int)))
  ((atI a0 i5).bind fun xq1 =>
  (atI b1 i5).bind fun xq2 =>
  cond (decide (xq1 ≠ xq2))
  (some (false, (())))
  (rec a0 b1 (IntKind.i64.wrap (i5 + (1 : Int)))))
  (k)
def zz40_a4 : Option (Bool × Unit) :=
  some (true, (()))
def zz40_s (L4 : Y4 → Y4 → Int → Option (Bool × Unit)) (a_0 : Y4) (b_1 : Y4) : Option (Bool × Unit) :=
  cond (decide ((a_0.length : Int) ≠ (b_1.length : Int)))
  (some (false, (())))
  (L4 a_0 b_1 (0 : Int))
def zz40_l4 (N : Nat) (k : Option (Bool × Unit)) : Nat → Y4 → Y4 → Int → Option (Bool × Unit)
  | 0, _, _, _ => none
  | m + 1, a0, b1, i5 => zz40_b4 (zz40_l4 N k m) k a0 b1 i5
def zz40_F4 (N : Nat) (a0 : Y4) (b1 : Y4) (i5 : Int) : Option (Bool × Unit) := zz40_l4 N (zz40_a4) N a0 b1 i5
def zz40 (N : Nat) (a_0 : Y4) (b_1 : Y4) : Option (Bool × Unit) := zz40_s (zz40_F4 N) a_0 b_1
def S_zz40 : Sig := { a := (.pair (.sl I) (.pair (.sl I) .unit)), md := [0, 0], mf := [], m := .unit, r := .bool, rf := .i, f := fun x => zz40 big x.1 x.2.1 }
def A_zz40 : Cfg := mkCfg tab [] [(8, [.as (.sl I) .i, .as (.sl I) .i, .drop, .drop, .drop, .as I .i]), (17, [])]
noncomputable def zz40_R4 (N n : Nat) (K : Ex → St → Option (Bool × Unit)) (a0 : Y4) (b1 : Y4) (i5 : Int) : Option (Bool × Unit) := iter ((A_zz40).shape 8) (run (A_zz40) N (codeAt Try.f8 [1, 1, 0, 1, 0, 0])) n ([.val (.sl I) .i a0, .val (.sl I) .i b1, .u, .u, .u, .val I .i i5] ++ List.replicate 20 .u) K
noncomputable abbrev zz40_z : Ex → St → Option (Bool × Unit) := finish (A_zz40) S_zz40 Try.f8.results.toList
noncomputable abbrev zz40_X4 (kX : St → Option (Bool × Unit)) : Option (Bool × Unit) := kX ([] ++ List.replicate 26 .u)
noncomputable abbrev zz40_E4 (kX : St → Option (Bool × Unit)) (kO : Nat → St → Option (Bool × Unit)) : Ex → St → Option (Bool × Unit) := exK zz40_z 0 ((A_zz40).shape 17) kX kO
theorem zz40_step4 (N : Nat) (m : Nat) (kX : St → Option (Bool × Unit)) (kO : Nat → St → Option (Bool × Unit)) (a0 : Y4) (b1 : Y4) (i5 : Int) : zz40_R4 N (m + 1) (zz40_E4 kX kO) a0 b1 i5 = zz40_b4 (zz40_R4 N m (zz40_E4 kX kO)) (zz40_X4 kX) a0 b1 i5 := by kernel_rfl
theorem zz40_iter4 (N : Nat) (kX : St → Option (Bool × Unit)) (kO : Nat → St → Option (Bool × Unit)) : ∀ (n : Nat) (a0 : Y4) (b1 : Y4) (i5 : Int), zz40_R4 N n (zz40_E4 kX kO) a0 b1 i5 = zz40_l4 N (zz40_X4 kX) n a0 b1 i5
  | 0, _, _, _ => rfl
  | m + 1, a0, b1, i5 => by
    have hrec : zz40_R4 N m (zz40_E4 kX kO) = (zz40_l4 N (zz40_X4 kX) m) := (funext fun a0 => (funext fun b1 => (funext fun i5 => zz40_iter4 N kX kO m a0 b1 i5)))
    refine (zz40_step4 N m kX kO a0 b1 i5).trans ?_
    rw [hrec]
    rfl
noncomputable abbrev zz40_K4 (N : Nat) : Ex → St → Option (Bool × Unit) := (blockK 0 (seqK ((A_zz40).shape 17) (run (A_zz40) N (codeAt Try.f8 [1, 1, 1])) zz40_z))
noncomputable abbrev zz40_k4 (N : Nat) : St → Option (Bool × Unit) := fun st' => run (A_zz40) N (codeAt Try.f8 [1, 1, 1]) st' zz40_z
theorem zz40_after4 (N : Nat) : zz40_X4 (zz40_k4 N) = zz40_a4 := by kernel_rfl
theorem zz40_in4 (N : Nat) (a0 : Y4) (b1 : Y4) (i5 : Int) : zz40_R4 N N (zz40_K4 N) a0 b1 i5 = zz40_F4 N a0 b1 i5 :=
  have h : zz40_X4 (zz40_k4 N) = (zz40_a4) := zz40_after4 N
  ((iter_ex (fun st => by kernel_rfl) (fun st => by kernel_rfl)).trans (zz40_iter4 N (zz40_k4 N) (fun j st => (zz40_K4 N) (.exit j) st) N a0 b1 i5)).trans (congrArg (fun k => zz40_l4 N k N a0 b1 i5) h)
theorem run0_zz40 (N : Nat) (x : (S_zz40).a.den) : runF (A_zz40) N Try.f8 S_zz40 x = (zz40_s (zz40_R4 N N (zz40_K4 N)) x.1 x.2.1) := by kernel_rfl
theorem run_zz40 (N : Nat) (x : (S_zz40).a.den) : runF (A_zz40) N Try.f8 S_zz40 x = zz40 N x.1 x.2.1 := by
  refine (run0_zz40 N x).trans ?_
  rw [(funext fun a0 => (funext fun b1 => (funext fun i5 => zz40_in4 N a0 b1 i5)))]
  rfl
theorem fn_zz40 : FnOk Try.prog 8 := ⟨_, Try.func8, by kernel_rfl, by kernel_rfl⟩
theorem good_zz40 : Gx.Good Try.prog 8 S_zz40 := good_of_run Try.func8 (of_decide_eq_true (by kernel_rfl)) fun x r h => ⟨A_zz40, big, mkCfg_ok tabOk, mkCfg_sigs (show SigsOk Try.prog [] from trivial), (run_zz40 big x).trans h⟩

/-! zz41 -/
def zz41_b4 (rec : Y3 → Y3 → Int → Option (Bool × Unit)) (k : Option (Bool × Unit)) (a0 : Y3) (b1 : Y3) (i5 : Int) : Option (Bool × Unit) :=
  cond (decide (i5 < (a0.length : Int)))
  ((atI a0 i5).bind fun xq1 =>
  (atI b1 i5).bind fun xq2 =>
  (zz40 big xq1 xq2).bind fun rq3 =>
  cond (!rq3.1)
  (some (false, (())))
  (rec a0 b1 (IntKind.i64.wrap (i5 + (1 : Int)))))
  (k)
def zz41_a4 : Option (Bool × Unit) :=
  some (true, (()))
def zz41_s (L4 : Y3 → Y3 → Int → Option (Bool × Unit)) (a_0 : Y3) (b_1 : Y3) : Option (Bool × Unit) :=
  cond (decide ((a_0.length : Int) ≠ (b_1.length : Int)))
  (some (false, (())))
  (L4 a_0 b_1 (0 : Int))
def zz41_l4 (N : Nat) (k : Option (Bool × Unit)) : Nat → Y3 → Y3 → Int → Option (Bool × Unit)
  | 0, _, _, _ => none
  | m + 1, a0, b1, i5 => zz41_b4 (zz41_l4 N k m) k a0 b1 i5
def zz41_F4 (N : Nat) (a0 : Y3) (b1 : Y3) (i5 : Int) : Option (Bool × Unit) := zz41_l4 N (zz41_a4) N a0 b1 i5
def zz41 (N : Nat) (a_0 : Y3) (b_1 : Y3) : Option (Bool × Unit) := zz41_s (zz41_F4 N) a_0 b_1
def S_zz41 : Sig := { a := (.pair (.sl (.sl I)) (.pair (.sl (.sl I)) .unit)), md := [0, 0], mf := [], m := .unit, r := .bool, rf := .i, f := fun x => zz41 big x.1 x.2.1 }
def A_zz41 : Cfg := mkCfg tab [(8, S_zz40)] [(8, [.as (.sl (.sl I)) .i, .as (.sl (.sl I)) .i, .drop, .drop, .drop, .as I .i]), (17, [])]
noncomputable def zz41_R4 (N n : Nat) (K : Ex → St → Option (Bool × Unit)) (a0 : Y3) (b1 : Y3) (i5 : Int) : Option (Bool × Unit) := iter ((A_zz41).shape 8) (run (A_zz41) N (codeAt Try.f19 [1, 1, 0, 1, 0, 0])) n ([.val (.sl (.sl I)) .i a0, .val (.sl (.sl I)) .i b1, .u, .u, .u, .val I .i i5] ++ List.replicate 21 .u) K
noncomputable abbrev zz41_z : Ex → St → Option (Bool × Unit) := finish (A_zz41) S_zz41 Try.f19.results.toList
noncomputable abbrev zz41_X4 (kX : St → Option (Bool × Unit)) : Option (Bool × Unit) := kX ([] ++ List.replicate 27 .u)
noncomputable abbrev zz41_E4 (kX : St → Option (Bool × Unit)) (kO : Nat → St → Option (Bool × Unit)) : Ex → St → Option (Bool × Unit) := exK zz41_z 0 ((A_zz41).shape 17) kX kO
theorem zz41_step4 (N : Nat) (m : Nat) (kX : St → Option (Bool × Unit)) (kO : Nat → St → Option (Bool × Unit)) (a0 : Y3) (b1 : Y3) (i5 : Int) : zz41_R4 N (m + 1) (zz41_E4 kX kO) a0 b1 i5 = zz41_b4 (zz41_R4 N m (zz41_E4 kX kO)) (zz41_X4 kX) a0 b1 i5 := by kernel_rfl
theorem zz41_iter4 (N : Nat) (kX : St → Option (Bool × Unit)) (kO : Nat → St → Option (Bool × Unit)) : ∀ (n : Nat) (a0 : Y3) (b1 : Y3) (i5 : Int), zz41_R4 N n (zz41_E4 kX kO) a0 b1 i5 = zz41_l4 N (zz41_X4 kX) n a0 b1 i5
  | 0, _, _, _ => rfl
  | m + 1, a0, b1, i5 => by
    have hrec : zz41_R4 N m (zz41_E4 kX kO) = (zz41_l4 N (zz41_X4 kX) m) := (funext fun a0 => (funext fun b1 => (funext fun i5 => zz41_iter4 N kX kO m a0 b1 i5)))
    refine (zz41_step4 N m kX kO a0 b1 i5).trans ?_
    rw [hrec]
    rfl
noncomputable abbrev zz41_K4 (N : Nat) : Ex → St → Option (Bool × Unit) := (blockK 0 (seqK ((A_zz41).shape 17) (run (A_zz41) N (codeAt Try.f19 [1, 1, 1])) zz41_z))
noncomputable abbrev zz41_k4 (N : Nat) : St → Option (Bool × Unit) := fun st' => run (A_zz41) N (codeAt Try.f19 [1, 1, 1]) st' zz41_z
theorem zz41_after4 (N : Nat) : zz41_X4 (zz41_k4 N) = zz41_a4 := by kernel_rfl
theorem zz41_in4 (N : Nat) (a0 : Y3) (b1 : Y3) (i5 : Int) : zz41_R4 N N (zz41_K4 N) a0 b1 i5 = zz41_F4 N a0 b1 i5 :=
  have h : zz41_X4 (zz41_k4 N) = (zz41_a4) := zz41_after4 N
  ((iter_ex (fun st => by kernel_rfl) (fun st => by kernel_rfl)).trans (zz41_iter4 N (zz41_k4 N) (fun j st => (zz41_K4 N) (.exit j) st) N a0 b1 i5)).trans (congrArg (fun k => zz41_l4 N k N a0 b1 i5) h)
theorem run0_zz41 (N : Nat) (x : (S_zz41).a.den) : runF (A_zz41) N Try.f19 S_zz41 x = (zz41_s (zz41_R4 N N (zz41_K4 N)) x.1 x.2.1) := by kernel_rfl
theorem run_zz41 (N : Nat) (x : (S_zz41).a.den) : runF (A_zz41) N Try.f19 S_zz41 x = zz41 N x.1 x.2.1 := by
  refine (run0_zz41 N x).trans ?_
  rw [(funext fun a0 => (funext fun b1 => (funext fun i5 => zz41_in4 N a0 b1 i5)))]
  rfl
theorem fn_zz41 : FnOk Try.prog 19 := ⟨_, Try.func19, by kernel_rfl, by kernel_rfl⟩
theorem good_zz41 : Gx.Good Try.prog 19 S_zz41 := good_of_run Try.func19 (of_decide_eq_true (by kernel_rfl)) fun x r h => ⟨A_zz41, big, mkCfg_ok tabOk, mkCfg_sigs (show SigsOk Try.prog [(8, S_zz40)] from ⟨⟨fn_zz40, good_zz40⟩, trivial⟩), (run_zz41 big x).trans h⟩

/-! zz42 -/
def zz42_s (a_0 : Y2) (b_1 : Y2) : Option (Bool × Unit) :=
  (zz41 big a_0.1 b_1.1).bind fun rq1 =>
  cond (!rq1.1)
  (some (false, (())))
  (some (true, (())))
def zz42 (a_0 : Y2) (b_1 : Y2) : Option (Bool × Unit) := zz42_s a_0 b_1
def S_zz42 : Sig := { a := (.pair (.pair (.sl (.sl I)) .unit) (.pair (.pair (.sl (.sl I)) .unit) .unit)), md := [0, 0], mf := [], m := .unit, r := .bool, rf := .i, f := fun x => zz42 x.1 x.2.1 }
def A_zz42 : Cfg := mkCfg tab [(19, S_zz41)] []
theorem run_zz42 (N : Nat) (x : (S_zz42).a.den) : runF (A_zz42) N Try.f9 S_zz42 x = zz42 x.1 x.2.1 := by kernel_rfl
theorem fn_zz42 : FnOk Try.prog 9 := ⟨_, Try.func9, by kernel_rfl, by kernel_rfl⟩
theorem good_zz42 : Gx.Good Try.prog 9 S_zz42 := good_of_run Try.func9 (of_decide_eq_true (by kernel_rfl)) fun x r h => ⟨A_zz42, big, mkCfg_ok tabOk, mkCfg_sigs (show SigsOk Try.prog [(19, S_zz41)] from ⟨⟨fn_zz41, good_zz41⟩, trivial⟩), (run_zz42 big x).trans h⟩

/-! zz43 -/
def zz43_b2 (rec : Y4 → Int → Int → Option Y6) (k : Y4 → Int → Option Y6) (a0 : Y4) (k1 : Int) (i5 : Int) : Option Y6 :=
  cond (decide (i5 < (a0.length : Int)))
  ((atI a0 i5).bind fun _ =>
  (a0[i5.toNat]?).bind fun xq1 =>
  rec (a0.set i5.toNat k1) (IntKind.i64.wrap (k1 + (1 : Int))) (IntKind.i64.wrap (i5 + (1 : Int))))
  (k a0 k1)
def zz43_a2 (a0 : Y4) (k1 : Int) : Option Y6 :=
  some (k1, (a0, ()))
def zz43_s (L2 : Y4 → Int → Int → Option Y6) (a_0 : Y4) (k_1 : Int) : Option Y6 :=
  L2 a_0 k_1 (0 : Int)
def zz43_l2 (N : Nat) (k : Y4 → Int → Option Y6) : Nat → Y4 → Int → Int → Option Y6
  | 0, _, _, _ => none
  | m + 1, a0, k1, i5 => zz43_b2 (zz43_l2 N k m) k a0 k1 i5
def zz43_F2 (N : Nat) (a0 : Y4) (k1 : Int) (i5 : Int) : Option Y6 := zz43_l2 N (zz43_a2) N a0 k1 i5
def zz43 (N : Nat) (a_0 : Y4) (k_1 : Int) : Option Y6 := zz43_s (zz43_F2 N) a_0 k_1
def S_zz43 : Sig := { a := (.pair (.sl I) (.pair I .unit)), md := [1, 0], mf := [(.o .i)], m := (.pair (.sl I) .unit), r := I, rf := .i, f := fun x => zz43 big x.1 x.2.1 }
def A_zz43 : Cfg := mkCfg tab [] [(4, [.as (.sl I) (.o .i), .as I .i, .drop, .drop, .drop, .as I .i]), (13, [.as (.sl I) (.o .i), .as I .i])]
noncomputable def zz43_R2 (N n : Nat) (K : Ex → St → Option Y6) (a0 : Y4) (k1 : Int) (i5 : Int) : Option Y6 := iter ((A_zz43).shape 4) (run (A_zz43) N (codeAt Try.f11 [1, 0, 1, 0, 0])) n ([.val (.sl I) (.o .i) a0, .val I .i k1, .u, .u, .u, .val I .i i5] ++ List.replicate 13 .u) K
noncomputable abbrev zz43_z : Ex → St → Option Y6 := finish (A_zz43) S_zz43 Try.f11.results.toList
noncomputable abbrev zz43_X2 (kX : St → Option Y6) : Y4 → Int → Option Y6 := fun (a0 : Y4) (k1 : Int) => kX ([.val (.sl I) (.o .i) a0, .val I .i k1] ++ List.replicate 17 .u)
noncomputable abbrev zz43_E2 (kX : St → Option Y6) (kO : Nat → St → Option Y6) : Ex → St → Option Y6 := exK zz43_z 0 ((A_zz43).shape 13) kX kO
theorem zz43_step2 (N : Nat) (m : Nat) (kX : St → Option Y6) (kO : Nat → St → Option Y6) (a0 : Y4) (k1 : Int) (i5 : Int) : zz43_R2 N (m + 1) (zz43_E2 kX kO) a0 k1 i5 = zz43_b2 (zz43_R2 N m (zz43_E2 kX kO)) (zz43_X2 kX) a0 k1 i5 := by kernel_rfl
theorem zz43_iter2 (N : Nat) (kX : St → Option Y6) (kO : Nat → St → Option Y6) : ∀ (n : Nat) (a0 : Y4) (k1 : Int) (i5 : Int), zz43_R2 N n (zz43_E2 kX kO) a0 k1 i5 = zz43_l2 N (zz43_X2 kX) n a0 k1 i5
  | 0, _, _, _ => rfl
  | m + 1, a0, k1, i5 => by
    have hrec : zz43_R2 N m (zz43_E2 kX kO) = (zz43_l2 N (zz43_X2 kX) m) := (funext fun a0 => (funext fun k1 => (funext fun i5 => zz43_iter2 N kX kO m a0 k1 i5)))
    refine (zz43_step2 N m kX kO a0 k1 i5).trans ?_
    rw [hrec]
    rfl
noncomputable abbrev zz43_K2 (N : Nat) : Ex → St → Option Y6 := (blockK 0 (seqK ((A_zz43).shape 13) (run (A_zz43) N (codeAt Try.f11 [1, 1])) zz43_z))
noncomputable abbrev zz43_k2 (N : Nat) : St → Option Y6 := fun st' => run (A_zz43) N (codeAt Try.f11 [1, 1]) st' zz43_z
theorem zz43_after2 (N : Nat) (a0 : Y4) (k1 : Int) : zz43_X2 (zz43_k2 N) a0 k1 = zz43_a2 a0 k1 := by kernel_rfl
theorem zz43_in2 (N : Nat) (a0 : Y4) (k1 : Int) (i5 : Int) : zz43_R2 N N (zz43_K2 N) a0 k1 i5 = zz43_F2 N a0 k1 i5 :=
  have h : zz43_X2 (zz43_k2 N) = (zz43_a2) := (funext fun a0 => (funext fun k1 => zz43_after2 N a0 k1))
  ((iter_ex (fun st => by kernel_rfl) (fun st => by kernel_rfl)).trans (zz43_iter2 N (zz43_k2 N) (fun j st => (zz43_K2 N) (.exit j) st) N a0 k1 i5)).trans (congrArg (fun k => zz43_l2 N k N a0 k1 i5) h)
theorem run0_zz43 (N : Nat) (x : (S_zz43).a.den) : runF (A_zz43) N Try.f11 S_zz43 x = (zz43_s (zz43_R2 N N (zz43_K2 N)) x.1 x.2.1) := by kernel_rfl
theorem run_zz43 (N : Nat) (x : (S_zz43).a.den) : runF (A_zz43) N Try.f11 S_zz43 x = zz43 N x.1 x.2.1 := by
  refine (run0_zz43 N x).trans ?_
  rw [(funext fun a0 => (funext fun k1 => (funext fun i5 => zz43_in2 N a0 k1 i5)))]
  rfl
theorem fn_zz43 : FnOk Try.prog 11 := ⟨_, Try.func11, by kernel_rfl, by kernel_rfl⟩
theorem good_zz43 : Gx.Good Try.prog 11 S_zz43 := good_of_run Try.func11 (of_decide_eq_true (by kernel_rfl)) fun x r h => ⟨A_zz43, big, mkCfg_ok tabOk, mkCfg_sigs (show SigsOk Try.prog [] from trivial), (run_zz43 big x).trans h⟩

/-! zz44 -/
def zz44_b2 (rec : Y3 → Int → Int → Option (Int × Y2)) (k : Y3 → Int → Option (Int × Y2)) (a0 : Y3) (k1 : Int) (i5 : Int) : Option (Int × Y2) :=
  cond (decide (i5 < (a0.length : Int)))
  ((atI a0 i5).bind fun _ =>
  (a0[i5.toNat]?).bind fun xq1 =>
  (a0[i5.toNat]?).bind fun xq2 =>
  (zz43 big xq2 k1).bind fun rq3 =>
  (a0[i5.toNat]?).bind fun xq4 =>
  (a0[i5.toNat]?).bind fun xq5 =>
  rec (a0.set i5.toNat rq3.2.1) rq3.1 (IntKind.i64.wrap (i5 + (1 : Int))))
  (k a0 k1)
def zz44_a2 (a0 : Y3) (k1 : Int) : Option (Int × Y2) :=
  some (k1, (a0, ()))
def zz44_s (L2 : Y3 → Int → Int → Option (Int × Y2)) (a_0 : Y3) (k_1 : Int) : Option (Int × Y2) :=
  L2 a_0 k_1 (0 : Int)
def zz44_l2 (N : Nat) (k : Y3 → Int → Option (Int × Y2)) : Nat → Y3 → Int → Int → Option (Int × Y2)
  | 0, _, _, _ => none
  | m + 1, a0, k1, i5 => zz44_b2 (zz44_l2 N k m) k a0 k1 i5
def zz44_F2 (N : Nat) (a0 : Y3) (k1 : Int) (i5 : Int) : Option (Int × Y2) := zz44_l2 N (zz44_a2) N a0 k1 i5
def zz44 (N : Nat) (a_0 : Y3) (k_1 : Int) : Option (Int × Y2) := zz44_s (zz44_F2 N) a_0 k_1
def S_zz44 : Sig := { a := (.pair (.sl (.sl I)) (.pair I .unit)), md := [1, 0], mf := [(.o (.o .i))], m := (.pair (.sl (.sl I)) .unit), r := I, rf := .i, f := fun x => zz44 big x.1 x.2.1 }
def A_zz44 : Cfg := mkCfg tab [(11, S_zz43)] [(4, [.as (.sl (.sl I)) (.o (.o .i)), .as I .i, .drop, .drop, .drop, .as I .i]), (11, [.as (.sl (.sl I)) (.o (.o .i)), .as I .i])]
noncomputable def zz44_R2 (N n : Nat) (K : Ex → St → Option (Int × Y2)) (a0 : Y3) (k1 : Int) (i5 : Int) : Option (Int × Y2) := iter ((A_zz44).shape 4) (run (A_zz44) N (codeAt Try.f20 [1, 0, 1, 0, 0])) n ([.val (.sl (.sl I)) (.o (.o .i)) a0, .val I .i k1, .u, .u, .u, .val I .i i5] ++ List.replicate 13 .u) K
noncomputable abbrev zz44_z : Ex → St → Option (Int × Y2) := finish (A_zz44) S_zz44 Try.f20.results.toList
noncomputable abbrev zz44_X2 (kX : St → Option (Int × Y2)) : Y3 → Int → Option (Int × Y2) := fun (a0 : Y3) (k1 : Int) => kX ([.val (.sl (.sl I)) (.o (.o .i)) a0, .val I .i k1] ++ List.replicate 17 .u)
noncomputable abbrev zz44_E2 (kX : St → Option (Int × Y2)) (kO : Nat → St → Option (Int × Y2)) : Ex → St → Option (Int × Y2) := exK zz44_z 0 ((A_zz44).shape 11) kX kO
theorem zz44_step2 (N : Nat) (m : Nat) (kX : St → Option (Int × Y2)) (kO : Nat → St → Option (Int × Y2)) (a0 : Y3) (k1 : Int) (i5 : Int) : zz44_R2 N (m + 1) (zz44_E2 kX kO) a0 k1 i5 = zz44_b2 (zz44_R2 N m (zz44_E2 kX kO)) (zz44_X2 kX) a0 k1 i5 := by kernel_rfl
theorem zz44_iter2 (N : Nat) (kX : St → Option (Int × Y2)) (kO : Nat → St → Option (Int × Y2)) : ∀ (n : Nat) (a0 : Y3) (k1 : Int) (i5 : Int), zz44_R2 N n (zz44_E2 kX kO) a0 k1 i5 = zz44_l2 N (zz44_X2 kX) n a0 k1 i5
  | 0, _, _, _ => rfl
  | m + 1, a0, k1, i5 => by
    have hrec : zz44_R2 N m (zz44_E2 kX kO) = (zz44_l2 N (zz44_X2 kX) m) := (funext fun a0 => (funext fun k1 => (funext fun i5 => zz44_iter2 N kX kO m a0 k1 i5)))
    refine (zz44_step2 N m kX kO a0 k1 i5).trans ?_
    rw [hrec]
    rfl
noncomputable abbrev zz44_K2 (N : Nat) : Ex → St → Option (Int × Y2) := (blockK 0 (seqK ((A_zz44).shape 11) (run (A_zz44) N (codeAt Try.f20 [1, 1])) zz44_z))
noncomputable abbrev zz44_k2 (N : Nat) : St → Option (Int × Y2) := fun st' => run (A_zz44) N (codeAt Try.f20 [1, 1]) st' zz44_z
theorem zz44_after2 (N : Nat) (a0 : Y3) (k1 : Int) : zz44_X2 (zz44_k2 N) a0 k1 = zz44_a2 a0 k1 := by kernel_rfl
theorem zz44_in2 (N : Nat) (a0 : Y3) (k1 : Int) (i5 : Int) : zz44_R2 N N (zz44_K2 N) a0 k1 i5 = zz44_F2 N a0 k1 i5 :=
  have h : zz44_X2 (zz44_k2 N) = (zz44_a2) := (funext fun a0 => (funext fun k1 => zz44_after2 N a0 k1))
  ((iter_ex (fun st => by kernel_rfl) (fun st => by kernel_rfl)).trans (zz44_iter2 N (zz44_k2 N) (fun j st => (zz44_K2 N) (.exit j) st) N a0 k1 i5)).trans (congrArg (fun k => zz44_l2 N k N a0 k1 i5) h)
theorem run0_zz44 (N : Nat) (x : (S_zz44).a.den) : runF (A_zz44) N Try.f20 S_zz44 x = (zz44_s (zz44_R2 N N (zz44_K2 N)) x.1 x.2.1) := by kernel_rfl
theorem run_zz44 (N : Nat) (x : (S_zz44).a.den) : runF (A_zz44) N Try.f20 S_zz44 x = zz44 N x.1 x.2.1 := by
  refine (run0_zz44 N x).trans ?_
  rw [(funext fun a0 => (funext fun k1 => (funext fun i5 => zz44_in2 N a0 k1 i5)))]
  rfl
theorem fn_zz44 : FnOk Try.prog 20 := ⟨_, Try.func20, by kernel_rfl, by kernel_rfl⟩
theorem good_zz44 : Gx.Good Try.prog 20 S_zz44 := good_of_run Try.func20 (of_decide_eq_true (by kernel_rfl)) fun x r h => ⟨A_zz44, big, mkCfg_ok tabOk, mkCfg_sigs (show SigsOk Try.prog [(11, S_zz43)] from ⟨⟨fn_zz43, good_zz43⟩, trivial⟩), (run_zz44 big x).trans h⟩

/-! zz45 -/
def zz45 (a_0 : Y2) (k_1 : Int) : Option (Int × (Y2 × Unit)) := (zz44 big a_0.1 k_1).bind fun r => some (r.1, ((r.2.1, ()), ()))
def S_zz45 : Sig := { a := (.pair (.pair (.sl (.sl I)) .unit) (.pair I .unit)), md := [1, 0], mf := [(.p (.o (.o .i)) .i)], m := (.pair (.pair (.sl (.sl I)) .unit) .unit), r := I, rf := .i, f := fun x => zz45 x.1 x.2.1 }
theorem fn_zz45 : FnOk Try.prog 10 := ⟨_, Try.func10, by kernel_rfl, by kernel_rfl⟩
theorem good_zz45 : Gx.Good Try.prog 10 S_zz45   := good_bx1 (A := mkCfg tab [] []) (T := 29) (TS := 22) (mkCfg_ok tabOk) Try.func10 (by kernel_rfl) (by kernel_rfl) fn_zz44 (by kernel_rfl) (by kernel_rfl) good_zz44

/-! zz46 -/
def zz46_b2 (rec : Y4 → Int → Int → Option (Int × Unit)) (k : Int → Option (Int × Unit)) (a0 : Y4) (k1 : Int) (i5 : Int) : Option (Int × Unit) :=
  cond (decide (i5 < (a0.length : Int)))
  ((atI a0 i5).bind fun xq1 =>
  cond (decide (xq1 ≠ k1))
  (some ((-1 : Int), (())))
  (rec a0 (IntKind.i64.wrap (k1 + (1 : Int))) (IntKind.i64.wrap (i5 + (1 : Int)))))
  (k k1)
def zz46_a2 (k1 : Int) : Option (Int × Unit) :=
  some (k1, (()))
def zz46_s (L2 : Y4 → Int → Int → Option (Int × Unit)) (a_0 : Y4) (k_1 : Int) : Option (Int × Unit) :=
  L2 a_0 k_1 (0 : Int)
def zz46_l2 (N : Nat) (k : Int → Option (Int × Unit)) : Nat → Y4 → Int → Int → Option (Int × Unit)
  | 0, _, _, _ => none
  | m + 1, a0, k1, i5 => zz46_b2 (zz46_l2 N k m) k a0 k1 i5
def zz46_F2 (N : Nat) (a0 : Y4) (k1 : Int) (i5 : Int) : Option (Int × Unit) := zz46_l2 N (zz46_a2) N a0 k1 i5
def zz46 (N : Nat) (a_0 : Y4) (k_1 : Int) : Option (Int × Unit) := zz46_s (zz46_F2 N) a_0 k_1
def S_zz46 : Sig := { a := (.pair (.sl I) (.pair I .unit)), md := [0, 0], mf := [], m := .unit, r := I, rf := .i, f := fun x => zz46 big x.1 x.2.1 }
def A_zz46 : Cfg := mkCfg tab [] [(4, [.as (.sl I) .i, .as I .i, .drop, .drop, .drop, .as I .i]), (15, [.drop, .as I .i])]
noncomputable def zz46_R2 (N n : Nat) (K : Ex → St → Option (Int × Unit)) (a0 : Y4) (k1 : Int) (i5 : Int) : Option (Int × Unit) := iter ((A_zz46).shape 4) (run (A_zz46) N (codeAt Try.f12 [1, 0, 1, 0, 0])) n ([.val (.sl I) .i a0, .val I .i k1, .u, .u, .u, .val I .i i5] ++ List.replicate 15 .u) K
noncomputable abbrev zz46_z : Ex → St → Option (Int × Unit) := finish (A_zz46) S_zz46 Try.f12.results.toList
noncomputable abbrev zz46_X2 (kX : St → Option (Int × Unit)) : Int → Option (Int × Unit) := fun (k1 : Int) => kX ([.u, .val I .i k1] ++ List.replicate 19 .u)
noncomputable abbrev zz46_E2 (kX : St → Option (Int × Unit)) (kO : Nat → St → Option (Int × Unit)) : Ex → St → Option (Int × Unit) := exK zz46_z 0 ((A_zz46).shape 15) kX kO
theorem zz46_step2 (N : Nat) (m : Nat) (kX : St → Option (Int × Unit)) (kO : Nat → St → Option (Int × Unit)) (a0 : Y4) (k1 : Int) (i5 : Int) : zz46_R2 N (m + 1) (zz46_E2 kX kO) a0 k1 i5 = zz46_b2 (zz46_R2 N m (zz46_E2 kX kO)) (zz46_X2 kX) a0 k1 i5 := by kernel_rfl
theorem zz46_iter2 (N : Nat) (kX : St → Option (Int × Unit)) (kO : Nat → St → Option (Int × Unit)) : ∀ (n : Nat) (a0 : Y4) (k1 : Int) (i5 : Int), zz46_R2 N n (zz46_E2 kX kO) a0 k1 i5 = zz46_l2 N (zz46_X2 kX) n a0 k1 i5
  | 0, _, _, _ => rfl
  | m + 1, a0, k1, i5 => by
    have hrec : zz46_R2 N m (zz46_E2 kX kO) = (zz46_l2 N (zz46_X2 kX) m) := (funext fun a0 => (funext fun k1 => (funext fun i5 => zz46_iter2 N kX kO m a0 k1 i5)))
    refine (zz46_step2 N m kX kO a0 k1 i5).trans ?_
    rw [hrec]
    rfl
noncomputable abbrev zz46_K2 (N : Nat) : Ex → St → Option (Int × Unit) := (blockK 0 (seqK ((A_zz46).shape 15) (run (A_zz46) N (codeAt Try.f12 [1, 1])) zz46_z))
noncomputable abbrev zz46_k2 (N : Nat) : St → Option (Int × Unit) := fun st' => run (A_zz46) N (codeAt Try.f12 [1, 1]) st' zz46_z
theorem zz46_after2 (N : Nat) (k1 : Int) : zz46_X2 (zz46_k2 N) k1 = zz46_a2 k1 := by kernel_rfl
theorem zz46_in2 (N : Nat) (a0 : Y4) (k1 : Int) (i5 : Int) : zz46_R2 N N (zz46_K2 N) a0 k1 i5 = zz46_F2 N a0 k1 i5 :=
  have h : zz46_X2 (zz46_k2 N) = (zz46_a2) := (funext fun k1 => zz46_after2 N k1)
  ((iter_ex (fun st => by kernel_rfl) (fun st => by kernel_rfl)).trans (zz46_iter2 N (zz46_k2 N) (fun j st => (zz46_K2 N) (.exit j) st) N a0 k1 i5)).trans (congrArg (fun k => zz46_l2 N k N a0 k1 i5) h)
theorem run0_zz46 (N : Nat) (x : (S_zz46).a.den) : runF (A_zz46) N Try.f12 S_zz46 x = (zz46_s (zz46_R2 N N (zz46_K2 N)) x.1 x.2.1) := by kernel_rfl
theorem run_zz46 (N : Nat) (x : (S_zz46).a.den) : runF (A_zz46) N Try.f12 S_zz46 x = zz46 N x.1 x.2.1 := by
  refine (run0_zz46 N x).trans ?_
  rw [(funext fun a0 => (funext fun k1 => (funext fun i5 => zz46_in2 N a0 k1 i5)))]
  rfl
theorem fn_zz46 : FnOk Try.prog 12 := ⟨_, Try.func12, by kernel_rfl, by kernel_rfl⟩
theorem good_zz46 : Gx.Good Try.prog 12 S_zz46 := good_of_run Try.func12 (of_decide_eq_true (by kernel_rfl)) fun x r h => ⟨A_zz46, big, mkCfg_ok tabOk, mkCfg_sigs (show SigsOk Try.prog [] from trivial), (run_zz46 big x).trans h⟩

/-! laws_FnExactFindSublattice -/
def laws_FnExactFindSublattice_s (aP_0 : Y2) (aQ_1 : Y2) : Option (Bool × Unit) :=
  (zz2 aP_0 (1048576 : Int)).bind fun rq1 =>
  cond (decide (rq1.1 < (0 : Int)))
  (some (true, (())))
  ((zz2 aQ_1 rq1.1).bind fun rq2 =>
  cond (decide (rq2.1 < (0 : Int)))
  (some (true, (())))
  ((zz5 aP_0).bind fun rq3 =>
  (zz5 aQ_1).bind fun rq4 =>
  (zz21 rq3.1 rq4.1).bind fun rq5 =>
  (zz5 aP_0).bind fun rq6 =>
  (zz5 aQ_1).bind fun rq7 =>
  (zz39 rq6.1 rq7.1).bind fun rq8 =>
  (zz40 big rq8.1.1 rq5.1.1).bind fun rq9 =>
  cond (!rq9.1)
  (some (false, (())))
  (cond (((((), rq8.1.2).2).1) != rq5.1.2.1)
  (some (false, (())))
  ((zz5 aP_0).bind fun rq10 =>
  (zz42 rq6.1 rq10.1).bind fun rq11 =>
  cond (!rq11.1)
  (some (false, (())))
  ((zz5 aQ_1).bind fun rq12 =>
  (zz42 rq7.1 rq12.1).bind fun rq13 =>
  cond (!rq13.1)
  (some (false, (())))
  ((zz45 rq6.1 (1 : Int)).bind fun rq14 =>
  (zz45 rq7.1 rq14.1).bind fun rq15 =>
  cond (decide (rq15.1 < (0 : Int)))
  (some (false, (())))
  ((zz40 big rq8.1.1 rq5.1.1).bind fun rq16 =>
  cond (!rq16.1)
  (some (false, (())))
  (cond (((((), rq8.1.2).2).1) != rq5.1.2.1)
  (some (false, (())))
  ((zz43 big rq8.1.1 (1 : Int)).bind fun rq17 =>
  (zz46 big rq17.2.1 (1 : Int)).bind fun rq18 =>
  cond (decide (rq18.1 < (0 : Int)))
  (some (false, (())))
  (cond (decide (rq18.1 ≠ rq17.1))
  (some (false, (())))
  ((zz5 aP_0).bind fun rq19 =>
  (zz5 aQ_1).bind fun rq20 =>
  (zz39 rq19.1 rq20.1).bind fun rq21 =>
  (zz40 big rq21.1.1 rq5.1.1).bind fun rq22 =>
  cond (!rq22.1)
  (some (false, (())))
  (cond (rq21.1.2.1 != rq5.1.2.1)
  (some (false, (())))
  ((zz46 big rq17.2.1 (1 : Int)).bind fun rq23 =>
  cond (decide (rq23.1 < (0 : Int)))
  (some (false, (())))
  (cond (decide (rq23.1 ≠ rq17.1))
  (some (false, (())))
  (some (true, (())))))))))))))))))
def laws_FnExactFindSublattice (aP_0 : Y2) (aQ_1 : Y2) : Option (Bool × Unit) := laws_FnExactFindSublattice_s aP_0 aQ_1
def S_laws_FnExactFindSublattice : Sig := { a := (.pair (.pair (.sl (.sl I)) .unit) (.pair (.pair (.sl (.sl I)) .unit) .unit)), md := [0, 0], mf := [], m := .unit, r := .bool, rf := .i, f := fun x => laws_FnExactFindSublattice x.1 x.2.1 }
def A_laws_FnExactFindSublattice : Cfg := mkCfg tab [(4, S_zz2), (6, S_zz5), (5, S_zz21), (7, S_zz39), (8, S_zz40), (9, S_zz42), (10, S_zz45), (11, S_zz43), (12, S_zz46)] []
theorem run_laws_FnExactFindSublattice (N : Nat) (x : (S_laws_FnExactFindSublattice).a.den) : runF (A_laws_FnExactFindSublattice) N Try.f3 S_laws_FnExactFindSublattice x = laws_FnExactFindSublattice x.1 x.2.1 := by kernel_rfl
theorem fn_laws_FnExactFindSublattice : FnOk Try.prog 3 := ⟨_, Try.func3, by kernel_rfl, by kernel_rfl⟩
theorem good_laws_FnExactFindSublattice : Gx.Good Try.prog 3 S_laws_FnExactFindSublattice := good_of_run Try.func3 (of_decide_eq_true (by kernel_rfl)) fun x r h => ⟨A_laws_FnExactFindSublattice, big, mkCfg_ok tabOk, mkCfg_sigs (show SigsOk Try.prog [(4, S_zz2), (6, S_zz5), (5, S_zz21), (7, S_zz39), (8, S_zz40), (9, S_zz42), (10, S_zz45), (11, S_zz43), (12, S_zz46)] from ⟨⟨fn_zz2, good_zz2⟩, ⟨fn_zz5, good_zz5⟩, ⟨fn_zz21, good_zz21⟩, ⟨fn_zz39, good_zz39⟩, ⟨fn_zz40, good_zz40⟩, ⟨fn_zz42, good_zz42⟩, ⟨fn_zz45, good_zz45⟩, ⟨fn_zz43, good_zz43⟩, ⟨fn_zz46, good_zz46⟩, trivial⟩), (run_laws_FnExactFindSublattice big x).trans h⟩
end Go.Proofs.Ytcgoaplbnjcboaa
