import Derived.Test.YtafkhhcnmmkieaaGCp2
set_option maxRecDepth 100000
set_option linter.unusedVariables false
namespace Go.Proofs.Ytafkhhcnmmkieaa
open Go Go.Gx Go.Proofs

/-! zz74 -/
def zz74_b8 (rec : Y2 → Y7 → Int → Y2 → Y6 → Y6 → Int → Int → Option (Y7 × Unit)) (k : Y2 → Y7 → Int → Y2 → Y6 → Y6 → Int → Option (Y7 × Unit)) (p1 : Y2) (t2 : Y7) (n3 : Int) (dual4 : Y2) (meet5 : Y6) (join6 : Y6) (x7 : Int) (y8 : Int) : Option (Y7 × Unit) :=
  cond (decide (y8 < n3))
  ((zz13 big p1 [x7, y8]).bind fun rq2 =>
  (appI meet5.2.1 [rq2.1]).bind fun xq3 =>
  (zz13 big dual4 [x7, y8]).bind fun rq4 =>
  (appI join6.2.1 [rq4.1]).bind fun xq5 =>
  rec p1 t2 n3 dual4 ((meet5.1, ((), meet5.2.2)).1, (xq3, ((meet5.1, ((), meet5.2.2)).2).2)) ((join6.1, ((), join6.2.2)).1, (xq5, ((join6.1, ((), join6.2.2)).2).2)) x7 (IntKind.i64.wrap (y8 + (1 : Int))))
  (k p1 t2 n3 dual4 meet5 join6 x7)
def zz74_a8 (rec : Y2 → Y7 → Int → Y2 → Y6 → Y6 → Int → Option (Y7 × Unit)) (p1 : Y2) (t2 : Y7) (n3 : Int) (dual4 : Y2) (meet5 : Y6) (join6 : Y6) (x7 : Int) : Option (Y7 × Unit) :=
  rec p1 t2 n3 dual4 meet5 join6 (IntKind.i64.wrap (x7 + (1 : Int)))
def zz74_b5 (L8 : Y2 → Y7 → Int → Y2 → Y6 → Y6 → Int → Int → Option (Y7 × Unit)) (k : Y7 → Int → Y6 → Y6 → Option (Y7 × Unit)) (p1 : Y2) (t2 : Y7) (n3 : Int) (dual4 : Y2) (meet5 : Y6) (join6 : Y6) (x7 : Int) : Option (Y7 × Unit) :=
  cond (decide (x7 < n3))
  (L8 p1 t2 n3 dual4 meet5 join6 x7 (0 : Int))
  (k t2 n3 meet5 join6)
def zz74_a5 (t2 : Y7) (n3 : Int) (meet5 : Y6) (join6 : Y6) : Option (Y7 × Unit) :=
  some ((n3, ([meet5, join6], ())), (()))
def zz74_s (L5 : Y2 → Y7 → Int → Y2 → Y6 → Y6 → Int → Option (Y7 × Unit)) (p_0 : Y2) : Option (Y7 × Unit) :=
  (zz12 big p_0).bind fun rq1 =>
  L5 p_0 ((0 : Int), (([] : (List Y6)), ())) (p_0.1.length : Int) rq1.1 ((2 : Int), (([] : Y4), ())) ((2 : Int), (([] : Y4), ())) (0 : Int)
def zz74_l8 (N : Nat) (k : Y2 → Y7 → Int → Y2 → Y6 → Y6 → Int → Option (Y7 × Unit)) : Nat → Y2 → Y7 → Int → Y2 → Y6 → Y6 → Int → Int → Option (Y7 × Unit)
  | 0, _, _, _, _, _, _, _, _ => none
  | m + 1, p1, t2, n3, dual4, meet5, join6, x7, y8 => zz74_b8 (zz74_l8 N k m) k p1 t2 n3 dual4 meet5 join6 x7 y8
def zz74_F8 (N : Nat) (rec : Y2 → Y7 → Int → Y2 → Y6 → Y6 → Int → Option (Y7 × Unit)) (k : Y7 → Int → Y6 → Y6 → Option (Y7 × Unit)) (p1 : Y2) (t2 : Y7) (n3 : Int) (dual4 : Y2) (meet5 : Y6) (join6 : Y6) (x7 : Int) (y8 : Int) : Option (Y7 × Unit) := zz74_l8 N (zz74_a8 rec) N p1 t2 n3 dual4 meet5 join6 x7 y8
def zz74_l5 (N : Nat) (k : Y7 → Int → Y6 → Y6 → Option (Y7 × Unit)) : Nat → Y2 → Y7 → Int → Y2 → Y6 → Y6 → Int → Option (Y7 × Unit)
  | 0, _, _, _, _, _, _, _ => none
  | m + 1, p1, t2, n3, dual4, meet5, join6, x7 => zz74_b5 (zz74_F8 N (zz74_l5 N k m) k) k p1 t2 n3 dual4 meet5 join6 x7
def zz74_F5 (N : Nat) (p1 : Y2) (t2 : Y7) (n3 : Int) (dual4 : Y2) (meet5 : Y6) (join6 : Y6) (x7 : Int) : Option (Y7 × Unit) := zz74_l5 N (zz74_a5) N p1 t2 n3 dual4 meet5 join6 x7
def zz74 (N : Nat) (p_0 : Y2) : Option (Y7 × Unit) := zz74_s (zz74_F5 N) p_0
def S_zz74 : Sig := { a := (.pair (.pair (.sl (.sl I)) .unit) .unit), md := [0], mf := [], m := .unit, r := (.pair I (.pair (.sl (.pair I (.pair (.sl I) .unit))) .unit)), rf := (.p .i (.p (.o (.p .i (.p (.o .i) .i))) .i)), f := fun x => zz74 big x.1 }
def A_zz74 : Cfg := mkCfg tab [(112, S_zz12), (113, S_zz13)] [(10, [.drop, .as (.ptr (.pair (.sl (.sl I)) .unit)) (.o .i), .as (.ptr (.pair I (.pair (.sl (.pair I (.pair (.sl I) .unit))) .unit))) (.o (.p .i (.p (.o (.p .i (.p (.o .i) .i))) .i))), .as I .i, .as (.ptr (.pair (.sl (.sl I)) .unit)) (.o (.p (.o (.o .i)) .i)), .as (.ptr (.pair I (.pair (.sl I) .unit))) (.o (.p .i (.p (.o .i) .i))), .as (.ptr (.pair I (.pair (.sl I) .unit))) (.o (.p .i (.p (.o .i) .i))), .as I .i]), (16, [.drop, .as (.ptr (.pair (.sl (.sl I)) .unit)) (.o .i), .as (.ptr (.pair I (.pair (.sl (.pair I (.pair (.sl I) .unit))) .unit))) (.o (.p .i (.p (.o (.p .i (.p (.o .i) .i))) .i))), .as I .i, .as (.ptr (.pair (.sl (.sl I)) .unit)) (.o (.p (.o (.o .i)) .i)), .as (.ptr (.pair I (.pair (.sl I) .unit))) (.o (.p .i (.p (.o .i) .i))), .as (.ptr (.pair I (.pair (.sl I) .unit))) (.o (.p .i (.p (.o .i) .i))), .as I .i, .as I .i]), (25, [.drop, .drop, .as (.ptr (.pair I (.pair (.sl (.pair I (.pair (.sl I) .unit))) .unit))) (.o (.p .i (.p (.o (.p .i (.p (.o .i) .i))) .i))), .as I .i, .drop, .as (.ptr (.pair I (.pair (.sl I) .unit))) (.o (.p .i (.p (.o .i) .i))), .as (.ptr (.pair I (.pair (.sl I) .unit))) (.o (.p .i (.p (.o .i) .i)))]), (13, [.drop, .as (.ptr (.pair (.sl (.sl I)) .unit)) (.o .i), .as (.ptr (.pair I (.pair (.sl (.pair I (.pair (.sl I) .unit))) .unit))) (.o (.p .i (.p (.o (.p .i (.p (.o .i) .i))) .i))), .as I .i, .as (.ptr (.pair (.sl (.sl I)) .unit)) (.o (.p (.o (.o .i)) .i)), .as (.ptr (.pair I (.pair (.sl I) .unit))) (.o (.p .i (.p (.o .i) .i))), .as (.ptr (.pair I (.pair (.sl I) .unit))) (.o (.p .i (.p (.o .i) .i))), .as I .i])]
noncomputable def zz74_R5 (N n : Nat) (K : Ex → St → Option (Y7 × Unit)) (p1 : Y2) (t2 : Y7) (n3 : Int) (dual4 : Y2) (meet5 : Y6) (join6 : Y6) (x7 : Int) : Option (Y7 × Unit) := iter ((A_zz74).shape 10) (run (A_zz74) N (codeAt Try.f105 [1, 1, 1, 1, 0, 1, 0, 0])) n ([.u, .val (.ptr (.pair (.sl (.sl I)) .unit)) (.o .i) p1, .val (.ptr (.pair I (.pair (.sl (.pair I (.pair (.sl I) .unit))) .unit))) (.o (.p .i (.p (.o (.p .i (.p (.o .i) .i))) .i))) t2, .val I .i n3, .val (.ptr (.pair (.sl (.sl I)) .unit)) (.o (.p (.o (.o .i)) .i)) dual4, .val (.ptr (.pair I (.pair (.sl I) .unit))) (.o (.p .i (.p (.o .i) .i))) meet5, .val (.ptr (.pair I (.pair (.sl I) .unit))) (.o (.p .i (.p (.o .i) .i))) join6, .val I .i x7] ++ List.replicate 43 .u) K
noncomputable def zz74_R8 (N n : Nat) (K : Ex → St → Option (Y7 × Unit)) (p1 : Y2) (t2 : Y7) (n3 : Int) (dual4 : Y2) (meet5 : Y6) (join6 : Y6) (x7 : Int) (y8 : Int) : Option (Y7 × Unit) := iter ((A_zz74).shape 16) (run (A_zz74) N (codeAt Try.f105 [1, 1, 1, 1, 0, 1, 0, 0, 1, 0, 0, 1, 0, 0])) n ([.u, .val (.ptr (.pair (.sl (.sl I)) .unit)) (.o .i) p1, .val (.ptr (.pair I (.pair (.sl (.pair I (.pair (.sl I) .unit))) .unit))) (.o (.p .i (.p (.o (.p .i (.p (.o .i) .i))) .i))) t2, .val I .i n3, .val (.ptr (.pair (.sl (.sl I)) .unit)) (.o (.p (.o (.o .i)) .i)) dual4, .val (.ptr (.pair I (.pair (.sl I) .unit))) (.o (.p .i (.p (.o .i) .i))) meet5, .val (.ptr (.pair I (.pair (.sl I) .unit))) (.o (.p .i (.p (.o .i) .i))) join6, .val I .i x7, .val I .i y8] ++ List.replicate 42 .u) K
noncomputable abbrev zz74_z : Ex → St → Option (Y7 × Unit) := finish (A_zz74) S_zz74 Try.f105.results.toList
noncomputable abbrev zz74_X5 (kX : St → Option (Y7 × Unit)) : Y7 → Int → Y6 → Y6 → Option (Y7 × Unit) := fun (t2 : Y7) (n3 : Int) (meet5 : Y6) (join6 : Y6) => kX ([.u, .u, .val (.ptr (.pair I (.pair (.sl (.pair I (.pair (.sl I) .unit))) .unit))) (.o (.p .i (.p (.o (.p .i (.p (.o .i) .i))) .i))) t2, .val I .i n3, .u, .val (.ptr (.pair I (.pair (.sl I) .unit))) (.o (.p .i (.p (.o .i) .i))) meet5, .val (.ptr (.pair I (.pair (.sl I) .unit))) (.o (.p .i (.p (.o .i) .i))) join6] ++ List.replicate 44 .u)
noncomputable abbrev zz74_E5 (kX : St → Option (Y7 × Unit)) (kO : Nat → St → Option (Y7 × Unit)) : Ex → St → Option (Y7 × Unit) := exK zz74_z 0 ((A_zz74).shape 25) kX kO
noncomputable abbrev zz74_X8 (kX : St → Option (Y7 × Unit)) : Y2 → Y7 → Int → Y2 → Y6 → Y6 → Int → Option (Y7 × Unit) := fun (p1 : Y2) (t2 : Y7) (n3 : Int) (dual4 : Y2) (meet5 : Y6) (join6 : Y6) (x7 : Int) => kX ([.u, .val (.ptr (.pair (.sl (.sl I)) .unit)) (.o .i) p1, .val (.ptr (.pair I (.pair (.sl (.pair I (.pair (.sl I) .unit))) .unit))) (.o (.p .i (.p (.o (.p .i (.p (.o .i) .i))) .i))) t2, .val I .i n3, .val (.ptr (.pair (.sl (.sl I)) .unit)) (.o (.p (.o (.o .i)) .i)) dual4, .val (.ptr (.pair I (.pair (.sl I) .unit))) (.o (.p .i (.p (.o .i) .i))) meet5, .val (.ptr (.pair I (.pair (.sl I) .unit))) (.o (.p .i (.p (.o .i) .i))) join6, .val I .i x7] ++ List.replicate 43 .u)
noncomputable abbrev zz74_E8 (kX : St → Option (Y7 × Unit)) (kO : Nat → St → Option (Y7 × Unit)) : Ex → St → Option (Y7 × Unit) := exK zz74_z 2 ((A_zz74).shape 13) kX kO
theorem zz74_step8 (N : Nat) (m : Nat) (kX : St → Option (Y7 × Unit)) (kO : Nat → St → Option (Y7 × Unit)) (p1 : Y2) (t2 : Y7) (n3 : Int) (dual4 : Y2) (meet5 : Y6) (join6 : Y6) (x7 : Int) (y8 : Int) : zz74_R8 N (m + 1) (zz74_E8 kX kO) p1 t2 n3 dual4 meet5 join6 x7 y8 = zz74_b8 (zz74_R8 N m (zz74_E8 kX kO)) (zz74_X8 kX) p1 t2 n3 dual4 meet5 join6 x7 y8 := by kernel_rfl
theorem zz74_iter8 (N : Nat) (kX : St → Option (Y7 × Unit)) (kO : Nat → St → Option (Y7 × Unit)) : ∀ (n : Nat) (p1 : Y2) (t2 : Y7) (n3 : Int) (dual4 : Y2) (meet5 : Y6) (join6 : Y6) (x7 : Int) (y8 : Int), zz74_R8 N n (zz74_E8 kX kO) p1 t2 n3 dual4 meet5 join6 x7 y8 = zz74_l8 N (zz74_X8 kX) n p1 t2 n3 dual4 meet5 join6 x7 y8
  | 0, _, _, _, _, _, _, _, _ => rfl
  | m + 1, p1, t2, n3, dual4, meet5, join6, x7, y8 => by
    have hrec : zz74_R8 N m (zz74_E8 kX kO) = (zz74_l8 N (zz74_X8 kX) m) := (funext fun p1 => (funext fun t2 => (funext fun n3 => (funext fun dual4 => (funext fun meet5 => (funext fun join6 => (funext fun x7 => (funext fun y8 => zz74_iter8 N kX kO m p1 t2 n3 dual4 meet5 join6 x7 y8))))))))
    refine (zz74_step8 N m kX kO p1 t2 n3 dual4 meet5 join6 x7 y8).trans ?_
    rw [hrec]
    rfl
noncomputable abbrev zz74_K8 (N : Nat) (m : Nat) (kX : St → Option (Y7 × Unit)) (kO : Nat → St → Option (Y7 × Unit)) : Ex → St → Option (Y7 × Unit) := (blockK 2 (blockK 1 (seqK ((A_zz74).shape 13) (run (A_zz74) N (codeAt Try.f105 [1, 1, 1, 1, 0, 1, 0, 0, 1, 1])) (iterK ((A_zz74).shape 10) (run (A_zz74) N (codeAt Try.f105 [1, 1, 1, 1, 0, 1, 0, 0])) m (zz74_E5 kX kO)))))
noncomputable abbrev zz74_k8 (N : Nat) (m : Nat) (kX : St → Option (Y7 × Unit)) (kO : Nat → St → Option (Y7 × Unit)) : St → Option (Y7 × Unit) := fun st' => run (A_zz74) N (codeAt Try.f105 [1, 1, 1, 1, 0, 1, 0, 0, 1, 1]) st' (iterK ((A_zz74).shape 10) (run (A_zz74) N (codeAt Try.f105 [1, 1, 1, 1, 0, 1, 0, 0])) m (zz74_E5 kX kO))
theorem zz74_after8 (N : Nat) (m : Nat) (kX : St → Option (Y7 × Unit)) (kO : Nat → St → Option (Y7 × Unit)) (p1 : Y2) (t2 : Y7) (n3 : Int) (dual4 : Y2) (meet5 : Y6) (join6 : Y6) (x7 : Int) : zz74_X8 (zz74_k8 N m kX kO) p1 t2 n3 dual4 meet5 join6 x7 = zz74_a8 (zz74_R5 N m (zz74_E5 kX kO)) p1 t2 n3 dual4 meet5 join6 x7 := by kernel_rfl
theorem zz74_in8 (N : Nat) (m : Nat) (kX : St → Option (Y7 × Unit)) (kO : Nat → St → Option (Y7 × Unit)) (recF : Y2 → Y7 → Int → Y2 → Y6 → Y6 → Int → Option (Y7 × Unit)) (hrec : zz74_R5 N m (zz74_E5 kX kO) = recF) (p1 : Y2) (t2 : Y7) (n3 : Int) (dual4 : Y2) (meet5 : Y6) (join6 : Y6) (x7 : Int) (y8 : Int) : zz74_R8 N N (zz74_K8 N m kX kO) p1 t2 n3 dual4 meet5 join6 x7 y8 = zz74_F8 N recF (zz74_X5 kX) p1 t2 n3 dual4 meet5 join6 x7 y8 :=
  have h : zz74_X8 (zz74_k8 N m kX kO) = (zz74_a8 recF) := (funext fun p1 => (funext fun t2 => (funext fun n3 => (funext fun dual4 => (funext fun meet5 => (funext fun join6 => (funext fun x7 => (zz74_after8 N m kX kO p1 t2 n3 dual4 meet5 join6 x7).trans (by rw [hrec]))))))))
  ((iter_ex (fun st => by kernel_rfl) (fun st => by kernel_rfl)).trans (zz74_iter8 N (zz74_k8 N m kX kO) (fun j st => (zz74_K8 N m kX kO) (.exit j) st) N p1 t2 n3 dual4 meet5 join6 x7 y8)).trans (congrArg (fun k => zz74_l8 N k N p1 t2 n3 dual4 meet5 join6 x7 y8) h)
theorem zz74_step5 (N : Nat) (m : Nat) (kX : St → Option (Y7 × Unit)) (kO : Nat → St → Option (Y7 × Unit)) (p1 : Y2) (t2 : Y7) (n3 : Int) (dual4 : Y2) (meet5 : Y6) (join6 : Y6) (x7 : Int) : zz74_R5 N (m + 1) (zz74_E5 kX kO) p1 t2 n3 dual4 meet5 join6 x7 = zz74_b5 (zz74_R8 N N (zz74_K8 N m kX kO)) (zz74_X5 kX) p1 t2 n3 dual4 meet5 join6 x7 := by kernel_rfl
theorem zz74_iter5 (N : Nat) (kX : St → Option (Y7 × Unit)) (kO : Nat → St → Option (Y7 × Unit)) : ∀ (n : Nat) (p1 : Y2) (t2 : Y7) (n3 : Int) (dual4 : Y2) (meet5 : Y6) (join6 : Y6) (x7 : Int), zz74_R5 N n (zz74_E5 kX kO) p1 t2 n3 dual4 meet5 join6 x7 = zz74_l5 N (zz74_X5 kX) n p1 t2 n3 dual4 meet5 join6 x7
  | 0, _, _, _, _, _, _, _ => rfl
  | m + 1, p1, t2, n3, dual4, meet5, join6, x7 => by
    have hrec : zz74_R5 N m (zz74_E5 kX kO) = (zz74_l5 N (zz74_X5 kX) m) := (funext fun p1 => (funext fun t2 => (funext fun n3 => (funext fun dual4 => (funext fun meet5 => (funext fun join6 => (funext fun x7 => zz74_iter5 N kX kO m p1 t2 n3 dual4 meet5 join6 x7)))))))
    refine (zz74_step5 N m kX kO p1 t2 n3 dual4 meet5 join6 x7).trans ?_
    rw [(funext fun p1 => (funext fun t2 => (funext fun n3 => (funext fun dual4 => (funext fun meet5 => (funext fun join6 => (funext fun x7 => (funext fun y8 => zz74_in8 N m kX kO (zz74_l5 N (zz74_X5 kX) m) hrec p1 t2 n3 dual4 meet5 join6 x7 y8))))))))]
    rfl
noncomputable abbrev zz74_K5 (N : Nat) : Ex → St → Option (Y7 × Unit) := (blockK 0 (seqK ((A_zz74).shape 25) (run (A_zz74) N (codeAt Try.f105 [1, 1, 1, 1, 1])) zz74_z))
noncomputable abbrev zz74_k5 (N : Nat) : St → Option (Y7 × Unit) := fun st' => run (A_zz74) N (codeAt Try.f105 [1, 1, 1, 1, 1]) st' zz74_z
theorem zz74_after5 (N : Nat) (t2 : Y7) (n3 : Int) (meet5 : Y6) (join6 : Y6) : zz74_X5 (zz74_k5 N) t2 n3 meet5 join6 = zz74_a5 t2 n3 meet5 join6 := by kernel_rfl
theorem zz74_in5 (N : Nat) (p1 : Y2) (t2 : Y7) (n3 : Int) (dual4 : Y2) (meet5 : Y6) (join6 : Y6) (x7 : Int) : zz74_R5 N N (zz74_K5 N) p1 t2 n3 dual4 meet5 join6 x7 = zz74_F5 N p1 t2 n3 dual4 meet5 join6 x7 :=
  have h : zz74_X5 (zz74_k5 N) = (zz74_a5) := (funext fun t2 => (funext fun n3 => (funext fun meet5 => (funext fun join6 => zz74_after5 N t2 n3 meet5 join6))))
  ((iter_ex (fun st => by kernel_rfl) (fun st => by kernel_rfl)).trans (zz74_iter5 N (zz74_k5 N) (fun j st => (zz74_K5 N) (.exit j) st) N p1 t2 n3 dual4 meet5 join6 x7)).trans (congrArg (fun k => zz74_l5 N k N p1 t2 n3 dual4 meet5 join6 x7) h)
theorem run0_zz74 (N : Nat) (x : (S_zz74).a.den) : runF (A_zz74) N Try.f105 S_zz74 x = (zz74_s (zz74_R5 N N (zz74_K5 N)) x.1) := by kernel_rfl
theorem run_zz74 (N : Nat) (x : (S_zz74).a.den) : runF (A_zz74) N Try.f105 S_zz74 x = zz74 N x.1 := by
  refine (run0_zz74 N x).trans ?_
  rw [(funext fun p1 => (funext fun t2 => (funext fun n3 => (funext fun dual4 => (funext fun meet5 => (funext fun join6 => (funext fun x7 => zz74_in5 N p1 t2 n3 dual4 meet5 join6 x7)))))))]
  rfl
theorem fn_zz74 : FnOk Try.prog 105 := ⟨_, Try.func105, by kernel_rfl, by kernel_rfl⟩
theorem good_zz74 : Gx.Good Try.prog 105 S_zz74 := good_of_run Try.func105 (of_decide_eq_true (by kernel_rfl)) fun x r h => ⟨A_zz74, big, mkCfg_ok tabOk, mkCfg_sigs (show SigsOk Try.prog [(112, S_zz12), (113, S_zz13)] from ⟨⟨fn_zz12, good_zz12⟩, ⟨fn_zz13, good_zz13⟩, trivial⟩), (run_zz74 big x).trans h⟩

/-! zz75 -/
def zz75_b3 (rec : Y2 → Y4 → Int → Option (Y4 × Unit)) (k : Y4 → Option (Y4 × Unit)) (p1 : Y2) (out3 : Y4) (x4 : Int) : Option (Y4 × Unit) :=
  cond (decide (x4 < (p1.1.length : Int)))
  ((zz19 p1).bind fun rq1 =>
  (zz20 p1).bind fun rq2 =>
  (zz21 big p1 rq1.1 x4 rq2.1).bind fun rq3 =>
  (atI rq3.1 (0 : Int)).bind fun _ =>
  (rq3.1[(0 : Int).toNat]?).bind fun xq4 =>
  (appI out3 [xq4]).bind fun xq5 =>
  rec p1 xq5 (IntKind.i64.wrap (x4 + (1 : Int))))
  (k out3)
def zz75_a3 (out3 : Y4) : Option (Y4 × Unit) :=
  some (out3, (()))
def zz75_s (L3 : Y2 → Y4 → Int → Option (Y4 × Unit)) (p_0 : Y2) : Option (Y4 × Unit) :=
  L3 p_0 [] (0 : Int)
def zz75_l3 (N : Nat) (k : Y4 → Option (Y4 × Unit)) : Nat → Y2 → Y4 → Int → Option (Y4 × Unit)
  | 0, _, _, _ => none
  | m + 1, p1, out3, x4 => zz75_b3 (zz75_l3 N k m) k p1 out3 x4
def zz75_F3 (N : Nat) (p1 : Y2) (out3 : Y4) (x4 : Int) : Option (Y4 × Unit) := zz75_l3 N (zz75_a3) N p1 out3 x4
def zz75 (N : Nat) (p_0 : Y2) : Option (Y4 × Unit) := zz75_s (zz75_F3 N) p_0
def S_zz75 : Sig := { a := (.pair (.pair (.sl (.sl I)) .unit) .unit), md := [0], mf := [], m := .unit, r := (.sl I), rf := (.o .i), f := fun x => zz75 big x.1 }
def A_zz75 : Cfg := mkCfg tab [(59, S_zz19), (60, S_zz20), (58, S_zz21)] [(6, [.drop, .as (.ptr (.pair (.sl (.sl I)) .unit)) (.o .i), .drop, .as (.sl I) (.o .i), .as I .i]), (13, [.drop, .drop, .drop, .as (.sl I) (.o .i)])]
noncomputable def zz75_R3 (N n : Nat) (K : Ex → St → Option (Y4 × Unit)) (p1 : Y2) (out3 : Y4) (x4 : Int) : Option (Y4 × Unit) := iter ((A_zz75).shape 6) (run (A_zz75) N (codeAt Try.f86 [1, 1, 0, 1, 0, 0])) n ([.u, .val (.ptr (.pair (.sl (.sl I)) .unit)) (.o .i) p1, .u, .val (.sl I) (.o .i) out3, .val I .i x4] ++ List.replicate 21 .u) K
noncomputable abbrev zz75_z : Ex → St → Option (Y4 × Unit) := finish (A_zz75) S_zz75 Try.f86.results.toList
noncomputable abbrev zz75_X3 (kX : St → Option (Y4 × Unit)) : Y4 → Option (Y4 × Unit) := fun (out3 : Y4) => kX ([.u, .u, .u, .val (.sl I) (.o .i) out3] ++ List.replicate 22 .u)
noncomputable abbrev zz75_E3 (kX : St → Option (Y4 × Unit)) (kO : Nat → St → Option (Y4 × Unit)) : Ex → St → Option (Y4 × Unit) := exK zz75_z 0 ((A_zz75).shape 13) kX kO
theorem zz75_step3 (N : Nat) (m : Nat) (kX : St → Option (Y4 × Unit)) (kO : Nat → St → Option (Y4 × Unit)) (p1 : Y2) (out3 : Y4) (x4 : Int) : zz75_R3 N (m + 1) (zz75_E3 kX kO) p1 out3 x4 = zz75_b3 (zz75_R3 N m (zz75_E3 kX kO)) (zz75_X3 kX) p1 out3 x4 := by kernel_rfl
theorem zz75_iter3 (N : Nat) (kX : St → Option (Y4 × Unit)) (kO : Nat → St → Option (Y4 × Unit)) : ∀ (n : Nat) (p1 : Y2) (out3 : Y4) (x4 : Int), zz75_R3 N n (zz75_E3 kX kO) p1 out3 x4 = zz75_l3 N (zz75_X3 kX) n p1 out3 x4
  | 0, _, _, _ => rfl
  | m + 1, p1, out3, x4 => by
    have hrec : zz75_R3 N m (zz75_E3 kX kO) = (zz75_l3 N (zz75_X3 kX) m) := (funext fun p1 => (funext fun out3 => (funext fun x4 => zz75_iter3 N kX kO m p1 out3 x4)))
    refine (zz75_step3 N m kX kO p1 out3 x4).trans ?_
    rw [hrec]
    rfl
noncomputable abbrev zz75_K3 (N : Nat) : Ex → St → Option (Y4 × Unit) := (blockK 0 (seqK ((A_zz75).shape 13) (run (A_zz75) N (codeAt Try.f86 [1, 1, 1])) zz75_z))
noncomputable abbrev zz75_k3 (N : Nat) : St → Option (Y4 × Unit) := fun st' => run (A_zz75) N (codeAt Try.f86 [1, 1, 1]) st' zz75_z
theorem zz75_after3 (N : Nat) (out3 : Y4) : zz75_X3 (zz75_k3 N) out3 = zz75_a3 out3 := by kernel_rfl
theorem zz75_in3 (N : Nat) (p1 : Y2) (out3 : Y4) (x4 : Int) : zz75_R3 N N (zz75_K3 N) p1 out3 x4 = zz75_F3 N p1 out3 x4 :=
  have h : zz75_X3 (zz75_k3 N) = (zz75_a3) := (funext fun out3 => zz75_after3 N out3)
  ((iter_ex (fun st => by kernel_rfl) (fun st => by kernel_rfl)).trans (zz75_iter3 N (zz75_k3 N) (fun j st => (zz75_K3 N) (.exit j) st) N p1 out3 x4)).trans (congrArg (fun k => zz75_l3 N k N p1 out3 x4) h)
theorem run0_zz75 (N : Nat) (x : (S_zz75).a.den) : runF (A_zz75) N Try.f86 S_zz75 x = (zz75_s (zz75_R3 N N (zz75_K3 N)) x.1) := by kernel_rfl
theorem run_zz75 (N : Nat) (x : (S_zz75).a.den) : runF (A_zz75) N Try.f86 S_zz75 x = zz75 N x.1 := by
  refine (run0_zz75 N x).trans ?_
  rw [(funext fun p1 => (funext fun out3 => (funext fun x4 => zz75_in3 N p1 out3 x4)))]
  rfl
theorem fn_zz75 : FnOk Try.prog 86 := ⟨_, Try.func86, by kernel_rfl, by kernel_rfl⟩
theorem good_zz75 : Gx.Good Try.prog 86 S_zz75 := good_of_run Try.func86 (of_decide_eq_true (by kernel_rfl)) fun x r h => ⟨A_zz75, big, mkCfg_ok tabOk, mkCfg_sigs (show SigsOk Try.prog [(59, S_zz19), (60, S_zz20), (58, S_zz21)] from ⟨⟨fn_zz19, good_zz19⟩, ⟨fn_zz20, good_zz20⟩, ⟨fn_zz21, good_zz21⟩, trivial⟩), (run_zz75 big x).trans h⟩

/-! zz76 -/
def zz76_s (p_0 : Y2) : Option ((Y7 × (Bool × Unit)) × Unit) :=
  (zz23 p_0).bind fun rq1 =>
  cond (!rq1.1)
  (some ((((0 : Int), (([] : (List Y6)), ())), false, ()), (())))
  ((zz74 big p_0).bind fun rq2 =>
  (zz75 big p_0).bind fun rq3 =>
  (appI rq2.1.2.1 [((1 : Int), (rq3.1, ()))]).bind fun xq4 =>
  some ((((rq2.1.1, ((), rq2.1.2.2)).1, (xq4, ((rq2.1.1, ((), rq2.1.2.2)).2).2)), true, ()), (())))
def zz76 (p_0 : Y2) : Option ((Y7 × (Bool × Unit)) × Unit) := zz76_s p_0
def S_zz76 : Sig := { a := (.pair (.pair (.sl (.sl I)) .unit) .unit), md := [0], mf := [], m := .unit, r := (.tup (.pair (.pair I (.pair (.sl (.pair I (.pair (.sl I) .unit))) .unit)) (.pair .bool .unit))), rf := (.p (.p .i (.p (.o (.p .i (.p (.o .i) .i))) .i)) .i), f := fun x => zz76 x.1 }
def A_zz76 : Cfg := mkCfg tab [(85, S_zz23), (105, S_zz74), (86, S_zz75)] []
theorem run_zz76 (N : Nat) (x : (S_zz76).a.den) : runF (A_zz76) N Try.f51 S_zz76 x = zz76 x.1 := by kernel_rfl
theorem fn_zz76 : FnOk Try.prog 51 := ⟨_, Try.func51, by kernel_rfl, by kernel_rfl⟩
theorem good_zz76 : Gx.Good Try.prog 51 S_zz76 := good_of_run Try.func51 (of_decide_eq_true (by kernel_rfl)) fun x r h => ⟨A_zz76, big, mkCfg_ok tabOk, mkCfg_sigs (show SigsOk Try.prog [(85, S_zz23), (105, S_zz74), (86, S_zz75)] from ⟨⟨fn_zz23, good_zz23⟩, ⟨fn_zz74, good_zz74⟩, ⟨fn_zz75, good_zz75⟩, trivial⟩), (run_zz76 big x).trans h⟩

/-! zz77 -/
def zz77_b3 (rec : Y6 → Y6 → Y3 → Int → Int → Option (Y6 × Unit)) (k : Y6 → Y6 → Option (Y6 × Unit)) (t2 : Y6) (f3 : Y6) (t7 : Y3) (t8 : Int) (t9 : Int) : Option (Y6 × Unit) :=
  cond (decide (t9 < t8))
  ((atI t7 t9).bind fun xq1 =>
  (appI f3.2.1 xq1).bind fun xq2 =>
  rec t2 ((f3.1, ((), f3.2.2)).1, (xq2, ((f3.1, ((), f3.2.2)).2).2)) t7 t8 (IntKind.i64.wrap (t9 + (1 : Int))))
  (k t2 f3)
def zz77_a3 (t2 : Y6) (f3 : Y6) : Option (Y6 × Unit) :=
  some (f3, (()))
def zz77_s (L3 : Y6 → Y6 → Y3 → Int → Int → Option (Y6 × Unit)) (table_0 : Y3) : Option (Y6 × Unit) :=
  L3 ((0 : Int), (([] : Y4), ())) ((2 : Int), (([] : Y4), ())) table_0 (table_0.length : Int) (0 : Int)
def zz77_l3 (N : Nat) (k : Y6 → Y6 → Option (Y6 × Unit)) : Nat → Y6 → Y6 → Y3 → Int → Int → Option (Y6 × Unit)
  | 0, _, _, _, _, _ => none
  | m + 1, t2, f3, t7, t8, t9 => zz77_b3 (zz77_l3 N k m) k t2 f3 t7 t8 t9
def zz77_F3 (N : Nat) (t2 : Y6) (f3 : Y6) (t7 : Y3) (t8 : Int) (t9 : Int) : Option (Y6 × Unit) := zz77_l3 N (zz77_a3) N t2 f3 t7 t8 t9
def zz77 (N : Nat) (table_0 : Y3) : Option (Y6 × Unit) := zz77_s (zz77_F3 N) table_0
def S_zz77 : Sig := { a := (.pair (.sl (.sl I)) .unit), md := [0], mf := [], m := .unit, r := (.pair I (.pair (.sl I) .unit)), rf := (.p .i (.p (.o .i) .i)), f := fun x => zz77 big x.1 }
def A_zz77 : Cfg := mkCfg tab [] [(6, [.drop, .drop, .as (.ptr (.pair I (.pair (.sl I) .unit))) (.o (.p .i (.p (.o .i) .i))), .as (.ptr (.pair I (.pair (.sl I) .unit))) (.o (.p .i (.p (.o .i) .i))), .drop, .drop, .drop, .as (.sl (.sl I)) .i, .as I .i, .as I .i]), (15, [.drop, .drop, .as (.ptr (.pair I (.pair (.sl I) .unit))) (.o (.p .i (.p (.o .i) .i))), .as (.ptr (.pair I (.pair (.sl I) .unit))) (.o (.p .i (.p (.o .i) .i)))])]
noncomputable def zz77_R3 (N n : Nat) (K : Ex → St → Option (Y6 × Unit)) (t2 : Y6) (f3 : Y6) (t7 : Y3) (t8 : Int) (t9 : Int) : Option (Y6 × Unit) := iter ((A_zz77).shape 6) (run (A_zz77) N (codeAt Try.f135 [1, 1, 0, 1, 0, 0])) n ([.u, .u, .val (.ptr (.pair I (.pair (.sl I) .unit))) (.o (.p .i (.p (.o .i) .i))) t2, .val (.ptr (.pair I (.pair (.sl I) .unit))) (.o (.p .i (.p (.o .i) .i))) f3, .u, .u, .u, .val (.sl (.sl I)) .i t7, .val I .i t8, .val I .i t9] ++ List.replicate 10 .u) K
noncomputable abbrev zz77_z : Ex → St → Option (Y6 × Unit) := finish (A_zz77) S_zz77 Try.f135.results.toList
noncomputable abbrev zz77_X3 (kX : St → Option (Y6 × Unit)) : Y6 → Y6 → Option (Y6 × Unit) := fun (t2 : Y6) (f3 : Y6) => kX ([.u, .u, .val (.ptr (.pair I (.pair (.sl I) .unit))) (.o (.p .i (.p (.o .i) .i))) t2, .val (.ptr (.pair I (.pair (.sl I) .unit))) (.o (.p .i (.p (.o .i) .i))) f3] ++ List.replicate 16 .u)
noncomputable abbrev zz77_E3 (kX : St → Option (Y6 × Unit)) (kO : Nat → St → Option (Y6 × Unit)) : Ex → St → Option (Y6 × Unit) := exK zz77_z 0 ((A_zz77).shape 15) kX kO
theorem zz77_step3 (N : Nat) (m : Nat) (kX : St → Option (Y6 × Unit)) (kO : Nat → St → Option (Y6 × Unit)) (t2 : Y6) (f3 : Y6) (t7 : Y3) (t8 : Int) (t9 : Int) : zz77_R3 N (m + 1) (zz77_E3 kX kO) t2 f3 t7 t8 t9 = zz77_b3 (zz77_R3 N m (zz77_E3 kX kO)) (zz77_X3 kX) t2 f3 t7 t8 t9 := by kernel_rfl
theorem zz77_iter3 (N : Nat) (kX : St → Option (Y6 × Unit)) (kO : Nat → St → Option (Y6 × Unit)) : ∀ (n : Nat) (t2 : Y6) (f3 : Y6) (t7 : Y3) (t8 : Int) (t9 : Int), zz77_R3 N n (zz77_E3 kX kO) t2 f3 t7 t8 t9 = zz77_l3 N (zz77_X3 kX) n t2 f3 t7 t8 t9
  | 0, _, _, _, _, _ => rfl
  | m + 1, t2, f3, t7, t8, t9 => by
    have hrec : zz77_R3 N m (zz77_E3 kX kO) = (zz77_l3 N (zz77_X3 kX) m) := (funext fun t2 => (funext fun f3 => (funext fun t7 => (funext fun t8 => (funext fun t9 => zz77_iter3 N kX kO m t2 f3 t7 t8 t9)))))
    refine (zz77_step3 N m kX kO t2 f3 t7 t8 t9).trans ?_
    rw [hrec]
    rfl
noncomputable abbrev zz77_K3 (N : Nat) : Ex → St → Option (Y6 × Unit) := (blockK 0 (seqK ((A_zz77).shape 15) (run (A_zz77) N (codeAt Try.f135 [1, 1, 1])) zz77_z))
noncomputable abbrev zz77_k3 (N : Nat) : St → Option (Y6 × Unit) := fun st' => run (A_zz77) N (codeAt Try.f135 [1, 1, 1]) st' zz77_z
theorem zz77_after3 (N : Nat) (t2 : Y6) (f3 : Y6) : zz77_X3 (zz77_k3 N) t2 f3 = zz77_a3 t2 f3 := by kernel_rfl
theorem zz77_in3 (N : Nat) (t2 : Y6) (f3 : Y6) (t7 : Y3) (t8 : Int) (t9 : Int) : zz77_R3 N N (zz77_K3 N) t2 f3 t7 t8 t9 = zz77_F3 N t2 f3 t7 t8 t9 :=
  have h : zz77_X3 (zz77_k3 N) = (zz77_a3) := (funext fun t2 => (funext fun f3 => zz77_after3 N t2 f3))
  ((iter_ex (fun st => by kernel_rfl) (fun st => by kernel_rfl)).trans (zz77_iter3 N (zz77_k3 N) (fun j st => (zz77_K3 N) (.exit j) st) N t2 f3 t7 t8 t9)).trans (congrArg (fun k => zz77_l3 N k N t2 f3 t7 t8 t9) h)
theorem run0_zz77 (N : Nat) (x : (S_zz77).a.den) : runF (A_zz77) N Try.f135 S_zz77 x = (zz77_s (zz77_R3 N N (zz77_K3 N)) x.1) := by kernel_rfl
theorem run_zz77 (N : Nat) (x : (S_zz77).a.den) : runF (A_zz77) N Try.f135 S_zz77 x = zz77 N x.1 := by
  refine (run0_zz77 N x).trans ?_
  rw [(funext fun t2 => (funext fun f3 => (funext fun t7 => (funext fun t8 => (funext fun t9 => zz77_in3 N t2 f3 t7 t8 t9)))))]
  rfl
theorem fn_zz77 : FnOk Try.prog 135 := ⟨_, Try.func135, by kernel_rfl, by kernel_rfl⟩
theorem good_zz77 : Gx.Good Try.prog 135 S_zz77 := good_of_run Try.func135 (of_decide_eq_true (by kernel_rfl)) fun x r h => ⟨A_zz77, big, mkCfg_ok tabOk, mkCfg_sigs (show SigsOk Try.prog [] from trivial), (run_zz77 big x).trans h⟩

/-! zz78 -/
def zz78_s (l_0 : Y1) : Option (Y7 × Unit) :=
  (l_0).bind fun xq1 =>
  (l_0).bind fun xq2 =>
  (zz77 big xq2.2.1).bind fun rq3 =>
  (l_0).bind fun xq4 =>
  (zz77 big xq4.2.2.1).bind fun rq5 =>
  some (((xq1.1.length : Int), ([rq3.1, rq5.1], ())), (()))
def zz78 (l_0 : Y1) : Option (Y7 × Unit) := zz78_s l_0
def S_zz78 : Sig := { a := (.pair (.opt (.pair (.sl (.sl .bool)) (.pair (.sl (.sl I)) (.pair (.sl (.sl I)) .unit)))) .unit), md := [0], mf := [], m := .unit, r := (.pair I (.pair (.sl (.pair I (.pair (.sl I) .unit))) .unit)), rf := (.p .i (.p (.o (.p .i (.p (.o .i) .i))) .i)), f := fun x => zz78 x.1 }
def A_zz78 : Cfg := mkCfg tab [(135, S_zz77)] []
theorem run_zz78 (N : Nat) (x : (S_zz78).a.den) : runF (A_zz78) N Try.f106 S_zz78 x = zz78 x.1 := by kernel_rfl
theorem fn_zz78 : FnOk Try.prog 106 := ⟨_, Try.func106, by kernel_rfl, by kernel_rfl⟩
theorem good_zz78 : Gx.Good Try.prog 106 S_zz78 := good_of_run Try.func106 (of_decide_eq_true (by kernel_rfl)) fun x r h => ⟨A_zz78, big, mkCfg_ok tabOk, mkCfg_sigs (show SigsOk Try.prog [(135, S_zz77)] from ⟨⟨fn_zz77, good_zz77⟩, trivial⟩), (run_zz78 big x).trans h⟩

/-! zz79 -/
def zz79_b3 (rec : Y1 → Y4 → Int → Int → Option (Y4 × Unit)) (k : Y4 → Option (Y4 × Unit)) (l0 : Y1) (list3 : Y4) (t10 : Int) (t11 : Int) : Option (Y4 × Unit) :=
  cond (decide (t11 < t10))
  ((zz47 l0 t11).bind fun rq2 =>
  (atI rq2.1 (0 : Int)).bind fun _ =>
  (rq2.1[(0 : Int).toNat]?).bind fun xq3 =>
  (appI list3 [xq3]).bind fun xq4 =>
  rec l0 xq4 t10 (IntKind.i64.wrap (t11 + (1 : Int))))
  (k list3)
def zz79_a3 (list3 : Y4) : Option (Y4 × Unit) :=
  some (list3, (()))
def zz79_s (L3 : Y1 → Y4 → Int → Int → Option (Y4 × Unit)) (l_0 : Y1) : Option (Y4 × Unit) :=
  (l_0).bind fun xq1 =>
  L3 l_0 [] (xq1.1.length : Int) (0 : Int)
def zz79_l3 (N : Nat) (k : Y4 → Option (Y4 × Unit)) : Nat → Y1 → Y4 → Int → Int → Option (Y4 × Unit)
  | 0, _, _, _, _ => none
  | m + 1, l0, list3, t10, t11 => zz79_b3 (zz79_l3 N k m) k l0 list3 t10 t11
def zz79_F3 (N : Nat) (l0 : Y1) (list3 : Y4) (t10 : Int) (t11 : Int) : Option (Y4 × Unit) := zz79_l3 N (zz79_a3) N l0 list3 t10 t11
def zz79 (N : Nat) (l_0 : Y1) : Option (Y4 × Unit) := zz79_s (zz79_F3 N) l_0
def S_zz79 : Sig := { a := (.pair (.opt (.pair (.sl (.sl .bool)) (.pair (.sl (.sl I)) (.pair (.sl (.sl I)) .unit)))) .unit), md := [0], mf := [], m := .unit, r := (.sl I), rf := (.o .i), f := fun x => zz79 big x.1 }
def A_zz79 : Cfg := mkCfg tab [(114, S_zz47)] [(6, [.as (.opt (.pair (.sl (.sl .bool)) (.pair (.sl (.sl I)) (.pair (.sl (.sl I)) .unit)))) .i, .drop, .drop, .as (.sl I) (.o .i), .drop, .drop, .drop, .drop, .drop, .drop, .as I .i, .as I .i]), (15, [.drop, .drop, .drop, .as (.sl I) (.o .i)])]
noncomputable def zz79_R3 (N n : Nat) (K : Ex → St → Option (Y4 × Unit)) (l0 : Y1) (list3 : Y4) (t10 : Int) (t11 : Int) : Option (Y4 × Unit) := iter ((A_zz79).shape 6) (run (A_zz79) N (codeAt Try.f88 [1, 1, 0, 1, 0, 0])) n ([.val (.opt (.pair (.sl (.sl .bool)) (.pair (.sl (.sl I)) (.pair (.sl (.sl I)) .unit)))) .i l0, .u, .u, .val (.sl I) (.o .i) list3, .u, .u, .u, .u, .u, .u, .val I .i t10, .val I .i t11] ++ List.replicate 12 .u) K
noncomputable abbrev zz79_z : Ex → St → Option (Y4 × Unit) := finish (A_zz79) S_zz79 Try.f88.results.toList
noncomputable abbrev zz79_X3 (kX : St → Option (Y4 × Unit)) : Y4 → Option (Y4 × Unit) := fun (list3 : Y4) => kX ([.u, .u, .u, .val (.sl I) (.o .i) list3] ++ List.replicate 20 .u)
noncomputable abbrev zz79_E3 (kX : St → Option (Y4 × Unit)) (kO : Nat → St → Option (Y4 × Unit)) : Ex → St → Option (Y4 × Unit) := exK zz79_z 0 ((A_zz79).shape 15) kX kO
theorem zz79_step3 (N : Nat) (m : Nat) (kX : St → Option (Y4 × Unit)) (kO : Nat → St → Option (Y4 × Unit)) (l0 : Y1) (list3 : Y4) (t10 : Int) (t11 : Int) : zz79_R3 N (m + 1) (zz79_E3 kX kO) l0 list3 t10 t11 = zz79_b3 (zz79_R3 N m (zz79_E3 kX kO)) (zz79_X3 kX) l0 list3 t10 t11 := by kernel_rfl
theorem zz79_iter3 (N : Nat) (kX : St → Option (Y4 × Unit)) (kO : Nat → St → Option (Y4 × Unit)) : ∀ (n : Nat) (l0 : Y1) (list3 : Y4) (t10 : Int) (t11 : Int), zz79_R3 N n (zz79_E3 kX kO) l0 list3 t10 t11 = zz79_l3 N (zz79_X3 kX) n l0 list3 t10 t11
  | 0, _, _, _, _ => rfl
  | m + 1, l0, list3, t10, t11 => by
    have hrec : zz79_R3 N m (zz79_E3 kX kO) = (zz79_l3 N (zz79_X3 kX) m) := (funext fun l0 => (funext fun list3 => (funext fun t10 => (funext fun t11 => zz79_iter3 N kX kO m l0 list3 t10 t11))))
    refine (zz79_step3 N m kX kO l0 list3 t10 t11).trans ?_
    rw [hrec]
    rfl
noncomputable abbrev zz79_K3 (N : Nat) : Ex → St → Option (Y4 × Unit) := (blockK 0 (seqK ((A_zz79).shape 15) (run (A_zz79) N (codeAt Try.f88 [1, 1, 1])) zz79_z))
noncomputable abbrev zz79_k3 (N : Nat) : St → Option (Y4 × Unit) := fun st' => run (A_zz79) N (codeAt Try.f88 [1, 1, 1]) st' zz79_z
theorem zz79_after3 (N : Nat) (list3 : Y4) : zz79_X3 (zz79_k3 N) list3 = zz79_a3 list3 := by kernel_rfl
theorem zz79_in3 (N : Nat) (l0 : Y1) (list3 : Y4) (t10 : Int) (t11 : Int) : zz79_R3 N N (zz79_K3 N) l0 list3 t10 t11 = zz79_F3 N l0 list3 t10 t11 :=
  have h : zz79_X3 (zz79_k3 N) = (zz79_a3) := (funext fun list3 => zz79_after3 N list3)
  ((iter_ex (fun st => by kernel_rfl) (fun st => by kernel_rfl)).trans (zz79_iter3 N (zz79_k3 N) (fun j st => (zz79_K3 N) (.exit j) st) N l0 list3 t10 t11)).trans (congrArg (fun k => zz79_l3 N k N l0 list3 t10 t11) h)
theorem run0_zz79 (N : Nat) (x : (S_zz79).a.den) : runF (A_zz79) N Try.f88 S_zz79 x = (zz79_s (zz79_R3 N N (zz79_K3 N)) x.1) := by kernel_rfl
theorem run_zz79 (N : Nat) (x : (S_zz79).a.den) : runF (A_zz79) N Try.f88 S_zz79 x = zz79 N x.1 := by
  refine (run0_zz79 N x).trans ?_
  rw [(funext fun l0 => (funext fun list3 => (funext fun t10 => (funext fun t11 => zz79_in3 N l0 list3 t10 t11))))]
  rfl
theorem fn_zz79 : FnOk Try.prog 88 := ⟨_, Try.func88, by kernel_rfl, by kernel_rfl⟩
theorem good_zz79 : Gx.Good Try.prog 88 S_zz79 := good_of_run Try.func88 (of_decide_eq_true (by kernel_rfl)) fun x r h => ⟨A_zz79, big, mkCfg_ok tabOk, mkCfg_sigs (show SigsOk Try.prog [(114, S_zz47)] from ⟨⟨fn_zz47, good_zz47⟩, trivial⟩), (run_zz79 big x).trans h⟩

/-! zz80 -/
def zz80_s (p_0 : Y2) : Option ((Y7 × (Bool × Unit)) × Unit) :=
  (zz52 p_0).bind fun rq1 =>
  cond (!rq1.1.2.1)
  (some ((((0 : Int), (([] : (List Y6)), ())), false, ()), (())))
  ((zz78 rq1.1.1).bind fun rq2 =>
  (zz79 big rq1.1.1).bind fun rq3 =>
  (appI rq2.1.2.1 [((1 : Int), (rq3.1, ()))]).bind fun xq4 =>
  some ((((rq2.1.1, ((), rq2.1.2.2)).1, (xq4, ((rq2.1.1, ((), rq2.1.2.2)).2).2)), true, ()), (())))
def zz80 (p_0 : Y2) : Option ((Y7 × (Bool × Unit)) × Unit) := zz80_s p_0
def S_zz80 : Sig := { a := (.pair (.pair (.sl (.sl I)) .unit) .unit), md := [0], mf := [], m := .unit, r := (.tup (.pair (.pair I (.pair (.sl (.pair I (.pair (.sl I) .unit))) .unit)) (.pair .bool .unit))), rf := (.p (.p .i (.p (.o (.p .i (.p (.o .i) .i))) .i)) .i), f := fun x => zz80 x.1 }
def A_zz80 : Cfg := mkCfg tab [(87, S_zz52), (106, S_zz78), (88, S_zz79)] []
theorem run_zz80 (N : Nat) (x : (S_zz80).a.den) : runF (A_zz80) N Try.f52 S_zz80 x = zz80 x.1 := by kernel_rfl
theorem fn_zz80 : FnOk Try.prog 52 := ⟨_, Try.func52, by kernel_rfl, by kernel_rfl⟩
theorem good_zz80 : Gx.Good Try.prog 52 S_zz80 := good_of_run Try.func52 (of_decide_eq_true (by kernel_rfl)) fun x r h => ⟨A_zz80, big, mkCfg_ok tabOk, mkCfg_sigs (show SigsOk Try.prog [(87, S_zz52), (106, S_zz78), (88, S_zz79)] from ⟨⟨fn_zz52, good_zz52⟩, ⟨fn_zz78, good_zz78⟩, ⟨fn_zz79, good_zz79⟩, trivial⟩), (run_zz80 big x).trans h⟩

/-! zz81 -/
def zz81_s (a_0 : Y6) (b_1 : Y6) : Option (Bool × Unit) :=
  cond (decide (a_0.1 ≠ b_1.1))
  (some (false, (())))
  ((zz62 big a_0.2.1 b_1.2.1).bind fun rq1 =>
  cond (!rq1.1)
  (some (false, (())))
  (some (true, (()))))
def zz81 (a_0 : Y6) (b_1 : Y6) : Option (Bool × Unit) := zz81_s a_0 b_1
def S_zz81 : Sig := { a := (.pair (.pair I (.pair (.sl I) .unit)) (.pair (.pair I (.pair (.sl I) .unit)) .unit)), md := [0, 0], mf := [], m := .unit, r := .bool, rf := .i, f := fun x => zz81 x.1 x.2.1 }
def A_zz81 : Cfg := mkCfg tab [(19, S_zz62)] []
theorem run_zz81 (N : Nat) (x : (S_zz81).a.den) : runF (A_zz81) N Try.f136 S_zz81 x = zz81 x.1 x.2.1 := by kernel_rfl
theorem fn_zz81 : FnOk Try.prog 136 := ⟨_, Try.func136, by kernel_rfl, by kernel_rfl⟩
theorem good_zz81 : Gx.Good Try.prog 136 S_zz81 := good_of_run Try.func136 (of_decide_eq_true (by kernel_rfl)) fun x r h => ⟨A_zz81, big, mkCfg_ok tabOk, mkCfg_sigs (show SigsOk Try.prog [(19, S_zz62)] from ⟨⟨fn_zz62, good_zz62⟩, trivial⟩), (run_zz81 big x).trans h⟩

/-! zz82 -/
def zz82_b4 (rec : (List Y6) → (List Y6) → Int → Option (Bool × Unit)) (k : Option (Bool × Unit)) (a0 : (List Y6)) (b1 : (List Y6)) (i5 : Int) : Option (Bool × Unit) :=
  cond (decide (i5 < (a0.length : Int)))
  ((atI a0 i5).bind fun xq1 =>
  (atI b1 i5).bind fun xq2 =>
  (zz81 xq1 xq2).bind fun rq3 =>
  cond (!rq3.1)
  (some (false, (())))
  (rec a0 b1 (IntKind.i64.wrap (i5 + (1 : Int)))))
  (k)
def zz82_a4 : Option (Bool × Unit) :=
  some (true, (()))
def zz82_s (L4 : (List Y6) → (List Y6) → Int → Option (Bool × Unit)) (a_0 : (List Y6)) (b_1 : (List Y6)) : Option (Bool × Unit) :=
  cond (decide ((a_0.length : Int) ≠ (b_1.length : Int)))
  (some (false, (())))
  (L4 a_0 b_1 (0 : Int))
def zz82_l4 (N : Nat) (k : Option (Bool × Unit)) : Nat → (List Y6) → (List Y6) → Int → Option (Bool × Unit)
  | 0, _, _, _ => none
  | m + 1, a0, b1, i5 => zz82_b4 (zz82_l4 N k m) k a0 b1 i5
def zz82_F4 (N : Nat) (a0 : (List Y6)) (b1 : (List Y6)) (i5 : Int) : Option (Bool × Unit) := zz82_l4 N (zz82_a4) N a0 b1 i5
def zz82 (N : Nat) (a_0 : (List Y6)) (b_1 : (List Y6)) : Option (Bool × Unit) := zz82_s (zz82_F4 N) a_0 b_1
def S_zz82 : Sig := { a := (.pair (.sl (.pair I (.pair (.sl I) .unit))) (.pair (.sl (.pair I (.pair (.sl I) .unit))) .unit)), md := [0, 0], mf := [], m := .unit, r := .bool, rf := .i, f := fun x => zz82 big x.1 x.2.1 }
def A_zz82 : Cfg := mkCfg tab [(136, S_zz81)] [(8, [.as (.sl (.pair I (.pair (.sl I) .unit))) .i, .as (.sl (.pair I (.pair (.sl I) .unit))) .i, .drop, .drop, .drop, .as I .i]), (17, [])]
noncomputable def zz82_R4 (N n : Nat) (K : Ex → St → Option (Bool × Unit)) (a0 : (List Y6)) (b1 : (List Y6)) (i5 : Int) : Option (Bool × Unit) := iter ((A_zz82).shape 8) (run (A_zz82) N (codeAt Try.f107 [1, 1, 0, 1, 0, 0])) n ([.val (.sl (.pair I (.pair (.sl I) .unit))) .i a0, .val (.sl (.pair I (.pair (.sl I) .unit))) .i b1, .u, .u, .u, .val I .i i5] ++ List.replicate 21 .u) K
noncomputable abbrev zz82_z : Ex → St → Option (Bool × Unit) := finish (A_zz82) S_zz82 Try.f107.results.toList
noncomputable abbrev zz82_X4 (kX : St → Option (Bool × Unit)) : Option (Bool × Unit) := kX ([] ++ List.replicate 27 .u)
noncomputable abbrev zz82_E4 (kX : St → Option (Bool × Unit)) (kO : Nat → St → Option (Bool × Unit)) : Ex → St → Option (Bool × Unit) := exK zz82_z 0 ((A_zz82).shape 17) kX kO
theorem zz82_step4 (N : Nat) (m : Nat) (kX : St → Option (Bool × Unit)) (kO : Nat → St → Option (Bool × Unit)) (a0 : (List Y6)) (b1 : (List Y6)) (i5 : Int) : zz82_R4 N (m + 1) (zz82_E4 kX kO) a0 b1 i5 = zz82_b4 (zz82_R4 N m (zz82_E4 kX kO)) (zz82_X4 kX) a0 b1 i5 := by kernel_rfl
theorem zz82_iter4 (N : Nat) (kX : St → Option (Bool × Unit)) (kO : Nat → St → Option (Bool × Unit)) : ∀ (n : Nat) (a0 : (List Y6)) (b1 : (List Y6)) (i5 : Int), zz82_R4 N n (zz82_E4 kX kO) a0 b1 i5 = zz82_l4 N (zz82_X4 kX) n a0 b1 i5
  | 0, _, _, _ => rfl
  | m + 1, a0, b1, i5 => by
    have hrec : zz82_R4 N m (zz82_E4 kX kO) = (zz82_l4 N (zz82_X4 kX) m) := (funext fun a0 => (funext fun b1 => (funext fun i5 => zz82_iter4 N kX kO m a0 b1 i5)))
    refine (zz82_step4 N m kX kO a0 b1 i5).trans ?_
    rw [hrec]
    rfl
noncomputable abbrev zz82_K4 (N : Nat) : Ex → St → Option (Bool × Unit) := (blockK 0 (seqK ((A_zz82).shape 17) (run (A_zz82) N (codeAt Try.f107 [1, 1, 1])) zz82_z))
noncomputable abbrev zz82_k4 (N : Nat) : St → Option (Bool × Unit) := fun st' => run (A_zz82) N (codeAt Try.f107 [1, 1, 1]) st' zz82_z
theorem zz82_after4 (N : Nat) : zz82_X4 (zz82_k4 N) = zz82_a4 := by kernel_rfl
theorem zz82_in4 (N : Nat) (a0 : (List Y6)) (b1 : (List Y6)) (i5 : Int) : zz82_R4 N N (zz82_K4 N) a0 b1 i5 = zz82_F4 N a0 b1 i5 :=
  have h : zz82_X4 (zz82_k4 N) = (zz82_a4) := zz82_after4 N
  ((iter_ex (fun st => by kernel_rfl) (fun st => by kernel_rfl)).trans (zz82_iter4 N (zz82_k4 N) (fun j st => (zz82_K4 N) (.exit j) st) N a0 b1 i5)).trans (congrArg (fun k => zz82_l4 N k N a0 b1 i5) h)
theorem run0_zz82 (N : Nat) (x : (S_zz82).a.den) : runF (A_zz82) N Try.f107 S_zz82 x = (zz82_s (zz82_R4 N N (zz82_K4 N)) x.1 x.2.1) := by kernel_rfl
theorem run_zz82 (N : Nat) (x : (S_zz82).a.den) : runF (A_zz82) N Try.f107 S_zz82 x = zz82 N x.1 x.2.1 := by
  refine (run0_zz82 N x).trans ?_
  rw [(funext fun a0 => (funext fun b1 => (funext fun i5 => zz82_in4 N a0 b1 i5)))]
  rfl
theorem fn_zz82 : FnOk Try.prog 107 := ⟨_, Try.func107, by kernel_rfl, by kernel_rfl⟩
theorem good_zz82 : Gx.Good Try.prog 107 S_zz82 := good_of_run Try.func107 (of_decide_eq_true (by kernel_rfl)) fun x r h => ⟨A_zz82, big, mkCfg_ok tabOk, mkCfg_sigs (show SigsOk Try.prog [(136, S_zz81)] from ⟨⟨fn_zz81, good_zz81⟩, trivial⟩), (run_zz82 big x).trans h⟩

/-! zz83 -/
def zz83_s (a_0 : Y7) (b_1 : Y7) : Option (Bool × Unit) :=
  cond (decide (a_0.1 ≠ b_1.1))
  (some (false, (())))
  ((zz82 big a_0.2.1 b_1.2.1).bind fun rq1 =>
  cond (!rq1.1)
  (some (false, (())))
  (some (true, (()))))
def zz83 (a_0 : Y7) (b_1 : Y7) : Option (Bool × Unit) := zz83_s a_0 b_1
def S_zz83 : Sig := { a := (.pair (.pair I (.pair (.sl (.pair I (.pair (.sl I) .unit))) .unit)) (.pair (.pair I (.pair (.sl (.pair I (.pair (.sl I) .unit))) .unit)) .unit)), md := [0, 0], mf := [], m := .unit, r := .bool, rf := .i, f := fun x => zz83 x.1 x.2.1 }
def A_zz83 : Cfg := mkCfg tab [(107, S_zz82)] []
theorem run_zz83 (N : Nat) (x : (S_zz83).a.den) : runF (A_zz83) N Try.f53 S_zz83 x = zz83 x.1 x.2.1 := by kernel_rfl
theorem fn_zz83 : FnOk Try.prog 53 := ⟨_, Try.func53, by kernel_rfl, by kernel_rfl⟩
theorem good_zz83 : Gx.Good Try.prog 53 S_zz83 := good_of_run Try.func53 (of_decide_eq_true (by kernel_rfl)) fun x r h => ⟨A_zz83, big, mkCfg_ok tabOk, mkCfg_sigs (show SigsOk Try.prog [(107, S_zz82)] from ⟨⟨fn_zz82, good_zz82⟩, trivial⟩), (run_zz83 big x).trans h⟩

/-! zz84 -/
def zz84_b2 (rec : (List Y6) → Int → Int → Option Y7) (k : (List Y6) → Int → Option Y7) (a0 : (List Y6)) (k1 : Int) (i5 : Int) : Option Y7 :=
  cond (decide (i5 < (a0.length : Int)))
  ((atI a0 i5).bind fun _ =>
  (a0[i5.toNat]?).bind fun xq1 =>
  (a0[i5.toNat]?).bind fun xq2 =>
  (atI (a0.set i5.toNat (k1, xq2.2)) i5).bind fun _ =>
  ((a0.set i5.toNat (k1, xq2.2))[i5.toNat]?).bind fun xq3 =>
  ((a0.set i5.toNat (k1, xq2.2))[i5.toNat]?).bind fun xq4 =>
  ((a0.set i5.toNat (k1, xq2.2))[i5.toNat]?).bind fun xq5 =>
  (zz65 big xq5.2.1 (IntKind.i64.wrap (k1 + (1 : Int)))).bind fun rq6 =>
  ((a0.set i5.toNat (k1, xq2.2))[i5.toNat]?).bind fun xq7 =>
  ((a0.set i5.toNat (k1, xq2.2))[i5.toNat]?).bind fun xq8 =>
  rec ((a0.set i5.toNat (k1, xq2.2)).set i5.toNat (xq8.1, (rq6.2.1, xq8.2.2))) rq6.1 (IntKind.i64.wrap (i5 + (1 : Int))))
  (k a0 k1)
def zz84_a2 (a0 : (List Y6)) (k1 : Int) : Option Y7 :=
  some (k1, (a0, ()))
def zz84_s (L2 : (List Y6) → Int → Int → Option Y7) (a_0 : (List Y6)) (k_1 : Int) : Option Y7 :=
  L2 a_0 k_1 (0 : Int)
def zz84_l2 (N : Nat) (k : (List Y6) → Int → Option Y7) : Nat → (List Y6) → Int → Int → Option Y7
  | 0, _, _, _ => none
  | m + 1, a0, k1, i5 => zz84_b2 (zz84_l2 N k m) k a0 k1 i5
def zz84_F2 (N : Nat) (a0 : (List Y6)) (k1 : Int) (i5 : Int) : Option Y7 := zz84_l2 N (zz84_a2) N a0 k1 i5
def zz84 (N : Nat) (a_0 : (List Y6)) (k_1 : Int) : Option Y7 := zz84_s (zz84_F2 N) a_0 k_1
def S_zz84 : Sig := { a := (.pair (.sl (.pair I (.pair (.sl I) .unit))) (.pair I .unit)), md := [1, 0], mf := [(.o (.p .i (.p (.o .i) .i)))], m := (.pair (.sl (.pair I (.pair (.sl I) .unit))) .unit), r := I, rf := .i, f := fun x => zz84 big x.1 x.2.1 }
def A_zz84 : Cfg := mkCfg tab [(22, S_zz65)] [(4, [.as (.sl (.pair I (.pair (.sl I) .unit))) (.o (.p .i (.p (.o .i) .i))), .as I .i, .drop, .drop, .drop, .as I .i]), (15, [.as (.sl (.pair I (.pair (.sl I) .unit))) (.o (.p .i (.p (.o .i) .i))), .as I .i])]
noncomputable def zz84_R2 (N n : Nat) (K : Ex → St → Option Y7) (a0 : (List Y6)) (k1 : Int) (i5 : Int) : Option Y7 := iter ((A_zz84).shape 4) (run (A_zz84) N (codeAt Try.f108 [1, 0, 1, 0, 0])) n ([.val (.sl (.pair I (.pair (.sl I) .unit))) (.o (.p .i (.p (.o .i) .i))) a0, .val I .i k1, .u, .u, .u, .val I .i i5] ++ List.replicate 21 .u) K
noncomputable abbrev zz84_z : Ex → St → Option Y7 := finish (A_zz84) S_zz84 Try.f108.results.toList
noncomputable abbrev zz84_X2 (kX : St → Option Y7) : (List Y6) → Int → Option Y7 := fun (a0 : (List Y6)) (k1 : Int) => kX ([.val (.sl (.pair I (.pair (.sl I) .unit))) (.o (.p .i (.p (.o .i) .i))) a0, .val I .i k1] ++ List.replicate 25 .u)
noncomputable abbrev zz84_E2 (kX : St → Option Y7) (kO : Nat → St → Option Y7) : Ex → St → Option Y7 := exK zz84_z 0 ((A_zz84).shape 15) kX kO
theorem zz84_step2 (N : Nat) (m : Nat) (kX : St → Option Y7) (kO : Nat → St → Option Y7) (a0 : (List Y6)) (k1 : Int) (i5 : Int) : zz84_R2 N (m + 1) (zz84_E2 kX kO) a0 k1 i5 = zz84_b2 (zz84_R2 N m (zz84_E2 kX kO)) (zz84_X2 kX) a0 k1 i5 := by kernel_rfl
theorem zz84_iter2 (N : Nat) (kX : St → Option Y7) (kO : Nat → St → Option Y7) : ∀ (n : Nat) (a0 : (List Y6)) (k1 : Int) (i5 : Int), zz84_R2 N n (zz84_E2 kX kO) a0 k1 i5 = zz84_l2 N (zz84_X2 kX) n a0 k1 i5
  | 0, _, _, _ => rfl
  | m + 1, a0, k1, i5 => by
    have hrec : zz84_R2 N m (zz84_E2 kX kO) = (zz84_l2 N (zz84_X2 kX) m) := (funext fun a0 => (funext fun k1 => (funext fun i5 => zz84_iter2 N kX kO m a0 k1 i5)))
    refine (zz84_step2 N m kX kO a0 k1 i5).trans ?_
    rw [hrec]
    rfl
noncomputable abbrev zz84_K2 (N : Nat) : Ex → St → Option Y7 := (blockK 0 (seqK ((A_zz84).shape 15) (run (A_zz84) N (codeAt Try.f108 [1, 1])) zz84_z))
noncomputable abbrev zz84_k2 (N : Nat) : St → Option Y7 := fun st' => run (A_zz84) N (codeAt Try.f108 [1, 1]) st' zz84_z
theorem zz84_after2 (N : Nat) (a0 : (List Y6)) (k1 : Int) : zz84_X2 (zz84_k2 N) a0 k1 = zz84_a2 a0 k1 := by kernel_rfl
theorem zz84_in2 (N : Nat) (a0 : (List Y6)) (k1 : Int) (i5 : Int) : zz84_R2 N N (zz84_K2 N) a0 k1 i5 = zz84_F2 N a0 k1 i5 :=
  have h : zz84_X2 (zz84_k2 N) = (zz84_a2) := (funext fun a0 => (funext fun k1 => zz84_after2 N a0 k1))
  ((iter_ex (fun st => by kernel_rfl) (fun st => by kernel_rfl)).trans (zz84_iter2 N (zz84_k2 N) (fun j st => (zz84_K2 N) (.exit j) st) N a0 k1 i5)).trans (congrArg (fun k => zz84_l2 N k N a0 k1 i5) h)
theorem run0_zz84 (N : Nat) (x : (S_zz84).a.den) : runF (A_zz84) N Try.f108 S_zz84 x = (zz84_s (zz84_R2 N N (zz84_K2 N)) x.1 x.2.1) := by kernel_rfl
theorem run_zz84 (N : Nat) (x : (S_zz84).a.den) : runF (A_zz84) N Try.f108 S_zz84 x = zz84 N x.1 x.2.1 := by
  refine (run0_zz84 N x).trans ?_
  rw [(funext fun a0 => (funext fun k1 => (funext fun i5 => zz84_in2 N a0 k1 i5)))]
  rfl
theorem fn_zz84 : FnOk Try.prog 108 := ⟨_, Try.func108, by kernel_rfl, by kernel_rfl⟩
theorem good_zz84 : Gx.Good Try.prog 108 S_zz84 := good_of_run Try.func108 (of_decide_eq_true (by kernel_rfl)) fun x r h => ⟨A_zz84, big, mkCfg_ok tabOk, mkCfg_sigs (show SigsOk Try.prog [(22, S_zz65)] from ⟨⟨fn_zz65, good_zz65⟩, trivial⟩), (run_zz84 big x).trans h⟩

/-! zz85 -/
def zz85 (a_0 : Y7) (k_1 : Int) : Option (Int × (Y7 × Unit)) := (zz84 big a_0.2.1 k_1).bind fun r => some (r.1, ((a_0.1, r.2.1, ()), ()))
def S_zz85 : Sig := { a := (.pair (.pair I (.pair (.sl (.pair I (.pair (.sl I) .unit))) .unit)) (.pair I .unit)), md := [1, 0], mf := [(.p .i (.p (.o (.p .i (.p (.o .i) .i))) .i))], m := (.pair (.pair I (.pair (.sl (.pair I (.pair (.sl I) .unit))) .unit)) .unit), r := I, rf := .i, f := fun x => zz85 x.1 x.2.1 }
theorem fn_zz85 : FnOk Try.prog 54 := ⟨_, Try.func54, by kernel_rfl, by kernel_rfl⟩
theorem good_zz85 : Gx.Good Try.prog 54 S_zz85   := good_bx2 (A := mkCfg tab [] []) (T := 55) (TS := 53) (mkCfg_ok tabOk) Try.func54 (by kernel_rfl) (by kernel_rfl) fn_zz84 (by kernel_rfl) (by kernel_rfl) good_zz84

/-! zz86 -/
def zz86_b2 (rec : (List Y6) → Int → Int → Option (Int × Unit)) (k : Int → Option (Int × Unit)) (a0 : (List Y6)) (k1 : Int) (i5 : Int) : Option (Int × Unit) :=
  cond (decide (i5 < (a0.length : Int)))
  ((atI a0 i5).bind fun xq1 =>
  cond (decide (xq1.1 ≠ k1))
  (some ((-1 : Int), (())))
  ((atI a0 i5).bind fun xq2 =>
  (zz68 big xq2.2.1 (IntKind.i64.wrap (k1 + (1 : Int)))).bind fun rq3 =>
  cond (decide (rq3.1 < (0 : Int)))
  (some ((-1 : Int), (())))
  (rec a0 rq3.1 (IntKind.i64.wrap (i5 + (1 : Int))))))
  (k k1)
def zz86_a2 (k1 : Int) : Option (Int × Unit) :=
  some (k1, (()))
def zz86_s (L2 : (List Y6) → Int → Int → Option (Int × Unit)) (a_0 : (List Y6)) (k_1 : Int) : Option (Int × Unit) :=
  L2 a_0 k_1 (0 : Int)
def zz86_l2 (N : Nat) (k : Int → Option (Int × Unit)) : Nat → (List Y6) → Int → Int → Option (Int × Unit)
  | 0, _, _, _ => none
  | m + 1, a0, k1, i5 => zz86_b2 (zz86_l2 N k m) k a0 k1 i5
def zz86_F2 (N : Nat) (a0 : (List Y6)) (k1 : Int) (i5 : Int) : Option (Int × Unit) := zz86_l2 N (zz86_a2) N a0 k1 i5
def zz86 (N : Nat) (a_0 : (List Y6)) (k_1 : Int) : Option (Int × Unit) := zz86_s (zz86_F2 N) a_0 k_1
def S_zz86 : Sig := { a := (.pair (.sl (.pair I (.pair (.sl I) .unit))) (.pair I .unit)), md := [0, 0], mf := [], m := .unit, r := I, rf := .i, f := fun x => zz86 big x.1 x.2.1 }
def A_zz86 : Cfg := mkCfg tab [(23, S_zz68)] [(4, [.as (.sl (.pair I (.pair (.sl I) .unit))) .i, .as I .i, .drop, .drop, .drop, .as I .i]), (21, [.drop, .as I .i])]
noncomputable def zz86_R2 (N n : Nat) (K : Ex → St → Option (Int × Unit)) (a0 : (List Y6)) (k1 : Int) (i5 : Int) : Option (Int × Unit) := iter ((A_zz86).shape 4) (run (A_zz86) N (codeAt Try.f109 [1, 0, 1, 0, 0])) n ([.val (.sl (.pair I (.pair (.sl I) .unit))) .i a0, .val I .i k1, .u, .u, .u, .val I .i i5] ++ List.replicate 25 .u) K
noncomputable abbrev zz86_z : Ex → St → Option (Int × Unit) := finish (A_zz86) S_zz86 Try.f109.results.toList
noncomputable abbrev zz86_X2 (kX : St → Option (Int × Unit)) : Int → Option (Int × Unit) := fun (k1 : Int) => kX ([.u, .val I .i k1] ++ List.replicate 29 .u)
noncomputable abbrev zz86_E2 (kX : St → Option (Int × Unit)) (kO : Nat → St → Option (Int × Unit)) : Ex → St → Option (Int × Unit) := exK zz86_z 0 ((A_zz86).shape 21) kX kO
theorem zz86_step2 (N : Nat) (m : Nat) (kX : St → Option (Int × Unit)) (kO : Nat → St → Option (Int × Unit)) (a0 : (List Y6)) (k1 : Int) (i5 : Int) : zz86_R2 N (m + 1) (zz86_E2 kX kO) a0 k1 i5 = zz86_b2 (zz86_R2 N m (zz86_E2 kX kO)) (zz86_X2 kX) a0 k1 i5 := by kernel_rfl
theorem zz86_iter2 (N : Nat) (kX : St → Option (Int × Unit)) (kO : Nat → St → Option (Int × Unit)) : ∀ (n : Nat) (a0 : (List Y6)) (k1 : Int) (i5 : Int), zz86_R2 N n (zz86_E2 kX kO) a0 k1 i5 = zz86_l2 N (zz86_X2 kX) n a0 k1 i5
  | 0, _, _, _ => rfl
  | m + 1, a0, k1, i5 => by
    have hrec : zz86_R2 N m (zz86_E2 kX kO) = (zz86_l2 N (zz86_X2 kX) m) := (funext fun a0 => (funext fun k1 => (funext fun i5 => zz86_iter2 N kX kO m a0 k1 i5)))
    refine (zz86_step2 N m kX kO a0 k1 i5).trans ?_
    rw [hrec]
    rfl
noncomputable abbrev zz86_K2 (N : Nat) : Ex → St → Option (Int × Unit) := (blockK 0 (seqK ((A_zz86).shape 21) (run (A_zz86) N (codeAt Try.f109 [1, 1])) zz86_z))
noncomputable abbrev zz86_k2 (N : Nat) : St → Option (Int × Unit) := fun st' => run (A_zz86) N (codeAt Try.f109 [1, 1]) st' zz86_z
theorem zz86_after2 (N : Nat) (k1 : Int) : zz86_X2 (zz86_k2 N) k1 = zz86_a2 k1 := by kernel_rfl
theorem zz86_in2 (N : Nat) (a0 : (List Y6)) (k1 : Int) (i5 : Int) : zz86_R2 N N (zz86_K2 N) a0 k1 i5 = zz86_F2 N a0 k1 i5 :=
  have h : zz86_X2 (zz86_k2 N) = (zz86_a2) := (funext fun k1 => zz86_after2 N k1)
  ((iter_ex (fun st => by kernel_rfl) (fun st => by kernel_rfl)).trans (zz86_iter2 N (zz86_k2 N) (fun j st => (zz86_K2 N) (.exit j) st) N a0 k1 i5)).trans (congrArg (fun k => zz86_l2 N k N a0 k1 i5) h)
theorem run0_zz86 (N : Nat) (x : (S_zz86).a.den) : runF (A_zz86) N Try.f109 S_zz86 x = (zz86_s (zz86_R2 N N (zz86_K2 N)) x.1 x.2.1) := by kernel_rfl
theorem run_zz86 (N : Nat) (x : (S_zz86).a.den) : runF (A_zz86) N Try.f109 S_zz86 x = zz86 N x.1 x.2.1 := by
  refine (run0_zz86 N x).trans ?_
  rw [(funext fun a0 => (funext fun k1 => (funext fun i5 => zz86_in2 N a0 k1 i5)))]
  rfl
theorem fn_zz86 : FnOk Try.prog 109 := ⟨_, Try.func109, by kernel_rfl, by kernel_rfl⟩
theorem good_zz86 : Gx.Good Try.prog 109 S_zz86 := good_of_run Try.func109 (of_decide_eq_true (by kernel_rfl)) fun x r h => ⟨A_zz86, big, mkCfg_ok tabOk, mkCfg_sigs (show SigsOk Try.prog [(23, S_zz68)] from ⟨⟨fn_zz68, good_zz68⟩, trivial⟩), (run_zz86 big x).trans h⟩

/-! zz87 -/
def zz87_s (a_0 : Y7) (k_1 : Int) : Option (Int × Unit) :=
  (zz86 big a_0.2.1 k_1).bind fun rq1 =>
  cond (decide (rq1.1 < (0 : Int)))
  (some ((-1 : Int), (())))
  (some (rq1.1, (())))
def zz87 (a_0 : Y7) (k_1 : Int) : Option (Int × Unit) := zz87_s a_0 k_1
def S_zz87 : Sig := { a := (.pair (.pair I (.pair (.sl (.pair I (.pair (.sl I) .unit))) .unit)) (.pair I .unit)), md := [0, 0], mf := [], m := .unit, r := I, rf := .i, f := fun x => zz87 x.1 x.2.1 }
def A_zz87 : Cfg := mkCfg tab [(109, S_zz86)] []
theorem run_zz87 (N : Nat) (x : (S_zz87).a.den) : runF (A_zz87) N Try.f55 S_zz87 x = zz87 x.1 x.2.1 := by kernel_rfl
theorem fn_zz87 : FnOk Try.prog 55 := ⟨_, Try.func55, by kernel_rfl, by kernel_rfl⟩
theorem good_zz87 : Gx.Good Try.prog 55 S_zz87 := good_of_run Try.func55 (of_decide_eq_true (by kernel_rfl)) fun x r h => ⟨A_zz87, big, mkCfg_ok tabOk, mkCfg_sigs (show SigsOk Try.prog [(109, S_zz86)] from ⟨⟨fn_zz86, good_zz86⟩, trivial⟩), (run_zz87 big x).trans h⟩

/-! laws_FnExactBooleanAlgebraOf -/
def laws_FnExactBooleanAlgebraOf_s (aP_0 : Y2) : Option (Bool × Unit) :=
  (zz2 aP_0 (1048576 : Int)).bind fun rq1 =>
  cond (decide (rq1.1 < (0 : Int)))
  (some (true, (())))
  ((zz5 aP_0).bind fun rq2 =>
  (zz76 rq2.1).bind fun rq3 =>
  (zz5 aP_0).bind fun rq4 =>
  (zz80 rq4.1).bind fun rq5 =>
  (zz83 rq5.1.1 rq3.1.1).bind fun rq6 =>
  cond (!rq6.1)
  (some (false, (())))
  (cond (((((), rq5.1.2).2).1) != ((((), rq3.1.2).2).1))
  (some (false, (())))
  ((zz5 aP_0).bind fun rq7 =>
  (zz64 rq4.1 rq7.1).bind fun rq8 =>
  cond (!rq8.1)
  (some (false, (())))
  ((zz67 rq4.1 (1 : Int)).bind fun rq9 =>
  cond (decide (rq9.1 < (0 : Int)))
  (some (false, (())))
  ((zz83 rq5.1.1 rq3.1.1).bind fun rq10 =>
  cond (!rq10.1)
  (some (false, (())))
  (cond (((((), rq5.1.2).2).1) != ((((), rq3.1.2).2).1))
  (some (false, (())))
  ((zz85 rq5.1.1 (1 : Int)).bind fun rq11 =>
  (zz87 rq11.2.1 (1 : Int)).bind fun rq12 =>
  cond (decide (rq12.1 < (0 : Int)))
  (some (false, (())))
  (cond (decide (rq12.1 ≠ rq11.1))
  (some (false, (())))
  ((zz5 aP_0).bind fun rq13 =>
  (zz80 rq13.1).bind fun rq14 =>
  (zz83 rq14.1.1 rq3.1.1).bind fun rq15 =>
  cond (!rq15.1)
  (some (false, (())))
  (cond (((((), rq14.1.2).2).1) != ((((), rq3.1.2).2).1))
  (some (false, (())))
  ((zz87 rq11.2.1 (1 : Int)).bind fun rq16 =>
  cond (decide (rq16.1 < (0 : Int)))
  (some (false, (())))
  (cond (decide (rq16.1 ≠ rq11.1))
  (some (false, (())))
  (some (true, (())))))))))))))))
def laws_FnExactBooleanAlgebraOf (aP_0 : Y2) : Option (Bool × Unit) := laws_FnExactBooleanAlgebraOf_s aP_0
def S_laws_FnExactBooleanAlgebraOf : Sig := { a := (.pair (.pair (.sl (.sl I)) .unit) .unit), md := [0], mf := [], m := .unit, r := .bool, rf := .i, f := fun x => laws_FnExactBooleanAlgebraOf x.1 }
def A_laws_FnExactBooleanAlgebraOf : Cfg := mkCfg tab [(15, S_zz2), (17, S_zz5), (51, S_zz76), (52, S_zz80), (53, S_zz83), (20, S_zz64), (21, S_zz67), (54, S_zz85), (55, S_zz87)] []
theorem run_laws_FnExactBooleanAlgebraOf (N : Nat) (x : (S_laws_FnExactBooleanAlgebraOf).a.den) : runF (A_laws_FnExactBooleanAlgebraOf) N Try.f14 S_laws_FnExactBooleanAlgebraOf x = laws_FnExactBooleanAlgebraOf x.1 := by kernel_rfl
theorem fn_laws_FnExactBooleanAlgebraOf : FnOk Try.prog 14 := ⟨_, Try.func14, by kernel_rfl, by kernel_rfl⟩
theorem good_laws_FnExactBooleanAlgebraOf : Gx.Good Try.prog 14 S_laws_FnExactBooleanAlgebraOf := good_of_run Try.func14 (of_decide_eq_true (by kernel_rfl)) fun x r h => ⟨A_laws_FnExactBooleanAlgebraOf, big, mkCfg_ok tabOk, mkCfg_sigs (show SigsOk Try.prog [(15, S_zz2), (17, S_zz5), (51, S_zz76), (52, S_zz80), (53, S_zz83), (20, S_zz64), (21, S_zz67), (54, S_zz85), (55, S_zz87)] from ⟨⟨fn_zz2, good_zz2⟩, ⟨fn_zz5, good_zz5⟩, ⟨fn_zz76, good_zz76⟩, ⟨fn_zz80, good_zz80⟩, ⟨fn_zz83, good_zz83⟩, ⟨fn_zz64, good_zz64⟩, ⟨fn_zz67, good_zz67⟩, ⟨fn_zz85, good_zz85⟩, ⟨fn_zz87, good_zz87⟩, trivial⟩), (run_laws_FnExactBooleanAlgebraOf big x).trans h⟩
end Go.Proofs.Ytafkhhcnmmkieaa
