import Derived.Test.YtiklgbjlggcejaaGCp2
set_option maxRecDepth 100000
set_option linter.unusedVariables false
namespace Go.Proofs.Ytiklgbjlggcejaa
open Go Go.Gx Go.Proofs

/-! zz79 -/
def zz79_b2 (rec : Y4 → Int → Int → Option Y6) (k : Y4 → Int → Option Y6) (a0 : Y4) (k1 : Int) (i5 : Int) : Option Y6 :=
  cond (decide (i5 < (a0.length : Int)))
  ((atI a0 i5).bind fun _ =>
  (a0[i5.toNat]?).bind fun xq1 =>
  rec (a0.set i5.toNat k1) (IntKind.i64.wrap (k1 + (1 : Int))) (IntKind.i64.wrap (i5 + (1 : Int))))
  (k a0 k1)
def zz79_a2 (a0 : Y4) (k1 : Int) : Option Y6 :=
  some (k1, (a0, ()))
def zz79_s (L2 : Y4 → Int → Int → Option Y6) (a_0 : Y4) (k_1 : Int) : Option Y6 :=
  L2 a_0 k_1 (0 : Int)
def zz79_l2 (N : Nat) (k : Y4 → Int → Option Y6) : Nat → Y4 → Int → Int → Option Y6
  | 0, _, _, _ => none
  | m + 1, a0, k1, i5 => zz79_b2 (zz79_l2 N k m) k a0 k1 i5
def zz79_F2 (N : Nat) (a0 : Y4) (k1 : Int) (i5 : Int) : Option Y6 := zz79_l2 N (zz79_a2) N a0 k1 i5
def zz79 (N : Nat) (a_0 : Y4) (k_1 : Int) : Option Y6 := zz79_s (zz79_F2 N) a_0 k_1
def S_zz79 : Sig := { a := (.pair (.sl I) (.pair I .unit)), md := [1, 0], mf := [(.o .i)], m := (.pair (.sl I) .unit), r := I, rf := .i, f := fun x => zz79 big x.1 x.2.1 }
def A_zz79 : Cfg := mkCfg tab [] [(4, [.as (.sl I) (.o .i), .as I .i, .drop, .drop, .drop, .as I .i]), (13, [.as (.sl I) (.o .i), .as I .i])]
noncomputable def zz79_R2 (N n : Nat) (K : Ex → St → Option Y6) (a0 : Y4) (k1 : Int) (i5 : Int) : Option Y6 := iter ((A_zz79).shape 4) (run (A_zz79) N (codeAt Try.f16 [1, 0, 1, 0, 0])) n ([.val (.sl I) (.o .i) a0, .val I .i k1, .u, .u, .u, .val I .i i5] ++ List.replicate 13 .u) K
noncomputable abbrev zz79_z : Ex → St → Option Y6 := finish (A_zz79) S_zz79 Try.f16.results.toList
noncomputable abbrev zz79_X2 (kX : St → Option Y6) : Y4 → Int → Option Y6 := fun (a0 : Y4) (k1 : Int) => kX ([.val (.sl I) (.o .i) a0, .val I .i k1] ++ List.replicate 17 .u)
noncomputable abbrev zz79_E2 (kX : St → Option Y6) (kO : Nat → St → Option Y6) : Ex → St → Option Y6 := exK zz79_z 0 ((A_zz79).shape 13) kX kO
theorem zz79_step2 (N : Nat) (m : Nat) (kX : St → Option Y6) (kO : Nat → St → Option Y6) (a0 : Y4) (k1 : Int) (i5 : Int) : zz79_R2 N (m + 1) (zz79_E2 kX kO) a0 k1 i5 = zz79_b2 (zz79_R2 N m (zz79_E2 kX kO)) (zz79_X2 kX) a0 k1 i5 := by kernel_rfl
theorem zz79_iter2 (N : Nat) (kX : St → Option Y6) (kO : Nat → St → Option Y6) : ∀ (n : Nat) (a0 : Y4) (k1 : Int) (i5 : Int), zz79_R2 N n (zz79_E2 kX kO) a0 k1 i5 = zz79_l2 N (zz79_X2 kX) n a0 k1 i5
  | 0, _, _, _ => rfl
  | m + 1, a0, k1, i5 => by
    have hrec : zz79_R2 N m (zz79_E2 kX kO) = (zz79_l2 N (zz79_X2 kX) m) := (funext fun a0 => (funext fun k1 => (funext fun i5 => zz79_iter2 N kX kO m a0 k1 i5)))
    refine (zz79_step2 N m kX kO a0 k1 i5).trans ?_
    rw [hrec]
    rfl
noncomputable abbrev zz79_K2 (N : Nat) : Ex → St → Option Y6 := (blockK 0 (seqK ((A_zz79).shape 13) (run (A_zz79) N (codeAt Try.f16 [1, 1])) zz79_z))
noncomputable abbrev zz79_k2 (N : Nat) : St → Option Y6 := fun st' => run (A_zz79) N (codeAt Try.f16 [1, 1]) st' zz79_z
theorem zz79_after2 (N : Nat) (a0 : Y4) (k1 : Int) : zz79_X2 (zz79_k2 N) a0 k1 = zz79_a2 a0 k1 := by kernel_rfl
theorem zz79_in2 (N : Nat) (a0 : Y4) (k1 : Int) (i5 : Int) : zz79_R2 N N (zz79_K2 N) a0 k1 i5 = zz79_F2 N a0 k1 i5 :=
  have h : zz79_X2 (zz79_k2 N) = (zz79_a2) := (funext fun a0 => (funext fun k1 => zz79_after2 N a0 k1))
  ((iter_ex (fun st => by kernel_rfl) (fun st => by kernel_rfl)).trans (zz79_iter2 N (zz79_k2 N) (fun j st => (zz79_K2 N) (.exit j) st) N a0 k1 i5)).trans (congrArg (fun k => zz79_l2 N k N a0 k1 i5) h)
theorem run0_zz79 (N : Nat) (x : (S_zz79).a.den) : runF (A_zz79) N Try.f16 S_zz79 x = (zz79_s (zz79_R2 N N (zz79_K2 N)) x.1 x.2.1) := by kernel_rfl
theorem run_zz79 (N : Nat) (x : (S_zz79).a.den) : runF (A_zz79) N Try.f16 S_zz79 x = zz79 N x.1 x.2.1 := by
  refine (run0_zz79 N x).trans ?_
  rw [(funext fun a0 => (funext fun k1 => (funext fun i5 => zz79_in2 N a0 k1 i5)))]
  rfl
theorem fn_zz79 : FnOk Try.prog 16 := ⟨_, Try.func16, by kernel_rfl, by kernel_rfl⟩
theorem good_zz79 : Gx.Good Try.prog 16 S_zz79 := good_of_run Try.func16 (of_decide_eq_true (by kernel_rfl)) fun x r h => ⟨A_zz79, big, mkCfg_ok tabOk, mkCfg_sigs (show SigsOk Try.prog [] from trivial), (run_zz79 big x).trans h⟩

/-! zz80 -/
def zz80_b2 (rec : (List Y6) → Int → Int → Option Y7) (k : (List Y6) → Int → Option Y7) (a0 : (List Y6)) (k1 : Int) (i5 : Int) : Option Y7 :=
  cond (decide (i5 < (a0.length : Int)))
  ((atI a0 i5).bind fun _ =>
  (a0[i5.toNat]?).bind fun xq1 =>
  (a0[i5.toNat]?).bind fun xq2 =>
  (atI (a0.set i5.toNat (k1, xq2.2)) i5).bind fun _ =>
  ((a0.set i5.toNat (k1, xq2.2))[i5.toNat]?).bind fun xq3 =>
  ((a0.set i5.toNat (k1, xq2.2))[i5.toNat]?).bind fun xq4 =>
  ((a0.set i5.toNat (k1, xq2.2))[i5.toNat]?).bind fun xq5 =>
  (zz79 big xq5.2.1 (IntKind.i64.wrap (k1 + (1 : Int)))).bind fun rq6 =>
  ((a0.set i5.toNat (k1, xq2.2))[i5.toNat]?).bind fun xq7 =>
  ((a0.set i5.toNat (k1, xq2.2))[i5.toNat]?).bind fun xq8 =>
  rec ((a0.set i5.toNat (k1, xq2.2)).set i5.toNat (xq8.1, (rq6.2.1, xq8.2.2))) rq6.1 (IntKind.i64.wrap (i5 + (1 : Int))))
  (k a0 k1)
def zz80_a2 (a0 : (List Y6)) (k1 : Int) : Option Y7 :=
  some (k1, (a0, ()))
def zz80_s (L2 : (List Y6) → Int → Int → Option Y7) (a_0 : (List Y6)) (k_1 : Int) : Option Y7 :=
  L2 a_0 k_1 (0 : Int)
def zz80_l2 (N : Nat) (k : (List Y6) → Int → Option Y7) : Nat → (List Y6) → Int → Int → Option Y7
  | 0, _, _, _ => none
  | m + 1, a0, k1, i5 => zz80_b2 (zz80_l2 N k m) k a0 k1 i5
def zz80_F2 (N : Nat) (a0 : (List Y6)) (k1 : Int) (i5 : Int) : Option Y7 := zz80_l2 N (zz80_a2) N a0 k1 i5
def zz80 (N : Nat) (a_0 : (List Y6)) (k_1 : Int) : Option Y7 := zz80_s (zz80_F2 N) a_0 k_1
def S_zz80 : Sig := { a := (.pair (.sl (.pair I (.pair (.sl I) .unit))) (.pair I .unit)), md := [1, 0], mf := [(.o (.p .i (.p (.o .i) .i)))], m := (.pair (.sl (.pair I (.pair (.sl I) .unit))) .unit), r := I, rf := .i, f := fun x => zz80 big x.1 x.2.1 }
def A_zz80 : Cfg := mkCfg tab [(16, S_zz79)] [(4, [.as (.sl (.pair I (.pair (.sl I) .unit))) (.o (.p .i (.p (.o .i) .i))), .as I .i, .drop, .drop, .drop, .as I .i]), (15, [.as (.sl (.pair I (.pair (.sl I) .unit))) (.o (.p .i (.p (.o .i) .i))), .as I .i])]
noncomputable def zz80_R2 (N n : Nat) (K : Ex → St → Option Y7) (a0 : (List Y6)) (k1 : Int) (i5 : Int) : Option Y7 := iter ((A_zz80).shape 4) (run (A_zz80) N (codeAt Try.f73 [1, 0, 1, 0, 0])) n ([.val (.sl (.pair I (.pair (.sl I) .unit))) (.o (.p .i (.p (.o .i) .i))) a0, .val I .i k1, .u, .u, .u, .val I .i i5] ++ List.replicate 21 .u) K
noncomputable abbrev zz80_z : Ex → St → Option Y7 := finish (A_zz80) S_zz80 Try.f73.results.toList
noncomputable abbrev zz80_X2 (kX : St → Option Y7) : (List Y6) → Int → Option Y7 := fun (a0 : (List Y6)) (k1 : Int) => kX ([.val (.sl (.pair I (.pair (.sl I) .unit))) (.o (.p .i (.p (.o .i) .i))) a0, .val I .i k1] ++ List.replicate 25 .u)
noncomputable abbrev zz80_E2 (kX : St → Option Y7) (kO : Nat → St → Option Y7) : Ex → St → Option Y7 := exK zz80_z 0 ((A_zz80).shape 15) kX kO
theorem zz80_step2 (N : Nat) (m : Nat) (kX : St → Option Y7) (kO : Nat → St → Option Y7) (a0 : (List Y6)) (k1 : Int) (i5 : Int) : zz80_R2 N (m + 1) (zz80_E2 kX kO) a0 k1 i5 = zz80_b2 (zz80_R2 N m (zz80_E2 kX kO)) (zz80_X2 kX) a0 k1 i5 := by kernel_rfl
theorem zz80_iter2 (N : Nat) (kX : St → Option Y7) (kO : Nat → St → Option Y7) : ∀ (n : Nat) (a0 : (List Y6)) (k1 : Int) (i5 : Int), zz80_R2 N n (zz80_E2 kX kO) a0 k1 i5 = zz80_l2 N (zz80_X2 kX) n a0 k1 i5
  | 0, _, _, _ => rfl
  | m + 1, a0, k1, i5 => by
    have hrec : zz80_R2 N m (zz80_E2 kX kO) = (zz80_l2 N (zz80_X2 kX) m) := (funext fun a0 => (funext fun k1 => (funext fun i5 => zz80_iter2 N kX kO m a0 k1 i5)))
    refine (zz80_step2 N m kX kO a0 k1 i5).trans ?_
    rw [hrec]
    rfl
noncomputable abbrev zz80_K2 (N : Nat) : Ex → St → Option Y7 := (blockK 0 (seqK ((A_zz80).shape 15) (run (A_zz80) N (codeAt Try.f73 [1, 1])) zz80_z))
noncomputable abbrev zz80_k2 (N : Nat) : St → Option Y7 := fun st' => run (A_zz80) N (codeAt Try.f73 [1, 1]) st' zz80_z
theorem zz80_after2 (N : Nat) (a0 : (List Y6)) (k1 : Int) : zz80_X2 (zz80_k2 N) a0 k1 = zz80_a2 a0 k1 := by kernel_rfl
theorem zz80_in2 (N : Nat) (a0 : (List Y6)) (k1 : Int) (i5 : Int) : zz80_R2 N N (zz80_K2 N) a0 k1 i5 = zz80_F2 N a0 k1 i5 :=
  have h : zz80_X2 (zz80_k2 N) = (zz80_a2) := (funext fun a0 => (funext fun k1 => zz80_after2 N a0 k1))
  ((iter_ex (fun st => by kernel_rfl) (fun st => by kernel_rfl)).trans (zz80_iter2 N (zz80_k2 N) (fun j st => (zz80_K2 N) (.exit j) st) N a0 k1 i5)).trans (congrArg (fun k => zz80_l2 N k N a0 k1 i5) h)
theorem run0_zz80 (N : Nat) (x : (S_zz80).a.den) : runF (A_zz80) N Try.f73 S_zz80 x = (zz80_s (zz80_R2 N N (zz80_K2 N)) x.1 x.2.1) := by kernel_rfl
theorem run_zz80 (N : Nat) (x : (S_zz80).a.den) : runF (A_zz80) N Try.f73 S_zz80 x = zz80 N x.1 x.2.1 := by
  refine (run0_zz80 N x).trans ?_
  rw [(funext fun a0 => (funext fun k1 => (funext fun i5 => zz80_in2 N a0 k1 i5)))]
  rfl
theorem fn_zz80 : FnOk Try.prog 73 := ⟨_, Try.func73, by kernel_rfl, by kernel_rfl⟩
theorem good_zz80 : Gx.Good Try.prog 73 S_zz80 := good_of_run Try.func73 (of_decide_eq_true (by kernel_rfl)) fun x r h => ⟨A_zz80, big, mkCfg_ok tabOk, mkCfg_sigs (show SigsOk Try.prog [(16, S_zz79)] from ⟨⟨fn_zz79, good_zz79⟩, trivial⟩), (run_zz80 big x).trans h⟩

/-! zz81 -/
def zz81 (a_0 : Y7) (k_1 : Int) : Option (Int × (Y7 × Unit)) := (zz80 big a_0.2.1 k_1).bind fun r => some (r.1, ((a_0.1, r.2.1, ()), ()))
def S_zz81 : Sig := { a := (.pair (.pair I (.pair (.sl (.pair I (.pair (.sl I) .unit))) .unit)) (.pair I .unit)), md := [1, 0], mf := [(.p .i (.p (.o (.p .i (.p (.o .i) .i))) .i))], m := (.pair (.pair I (.pair (.sl (.pair I (.pair (.sl I) .unit))) .unit)) .unit), r := I, rf := .i, f := fun x => zz81 x.1 x.2.1 }
theorem fn_zz81 : FnOk Try.prog 32 := ⟨_, Try.func32, by kernel_rfl, by kernel_rfl⟩
theorem good_zz81 : Gx.Good Try.prog 32 S_zz81   := good_bx2 (A := mkCfg tab [] []) (T := 53) (TS := 51) (mkCfg_ok tabOk) Try.func32 (by kernel_rfl) (by kernel_rfl) fn_zz80 (by kernel_rfl) (by kernel_rfl) good_zz80

/-! zz82 -/
def zz82_b2 (rec : Y3 → Int → Int → Option (Int × Y2)) (k : Y3 → Int → Option (Int × Y2)) (a0 : Y3) (k1 : Int) (i5 : Int) : Option (Int × Y2) :=
  cond (decide (i5 < (a0.length : Int)))
  ((atI a0 i5).bind fun _ =>
  (a0[i5.toNat]?).bind fun xq1 =>
  (a0[i5.toNat]?).bind fun xq2 =>
  (zz79 big xq2 k1).bind fun rq3 =>
  (a0[i5.toNat]?).bind fun xq4 =>
  (a0[i5.toNat]?).bind fun xq5 =>
  rec (a0.set i5.toNat rq3.2.1) rq3.1 (IntKind.i64.wrap (i5 + (1 : Int))))
  (k a0 k1)
def zz82_a2 (a0 : Y3) (k1 : Int) : Option (Int × Y2) :=
  some (k1, (a0, ()))
def zz82_s (L2 : Y3 → Int → Int → Option (Int × Y2)) (a_0 : Y3) (k_1 : Int) : Option (Int × Y2) :=
  L2 a_0 k_1 (0 : Int)
def zz82_l2 (N : Nat) (k : Y3 → Int → Option (Int × Y2)) : Nat → Y3 → Int → Int → Option (Int × Y2)
  | 0, _, _, _ => none
  | m + 1, a0, k1, i5 => zz82_b2 (zz82_l2 N k m) k a0 k1 i5
def zz82_F2 (N : Nat) (a0 : Y3) (k1 : Int) (i5 : Int) : Option (Int × Y2) := zz82_l2 N (zz82_a2) N a0 k1 i5
def zz82 (N : Nat) (a_0 : Y3) (k_1 : Int) : Option (Int × Y2) := zz82_s (zz82_F2 N) a_0 k_1
def S_zz82 : Sig := { a := (.pair (.sl (.sl I)) (.pair I .unit)), md := [1, 0], mf := [(.o (.o .i))], m := (.pair (.sl (.sl I)) .unit), r := I, rf := .i, f := fun x => zz82 big x.1 x.2.1 }
def A_zz82 : Cfg := mkCfg tab [(16, S_zz79)] [(4, [.as (.sl (.sl I)) (.o (.o .i)), .as I .i, .drop, .drop, .drop, .as I .i]), (11, [.as (.sl (.sl I)) (.o (.o .i)), .as I .i])]
noncomputable def zz82_R2 (N n : Nat) (K : Ex → St → Option (Int × Y2)) (a0 : Y3) (k1 : Int) (i5 : Int) : Option (Int × Y2) := iter ((A_zz82).shape 4) (run (A_zz82) N (codeAt Try.f55 [1, 0, 1, 0, 0])) n ([.val (.sl (.sl I)) (.o (.o .i)) a0, .val I .i k1, .u, .u, .u, .val I .i i5] ++ List.replicate 13 .u) K
noncomputable abbrev zz82_z : Ex → St → Option (Int × Y2) := finish (A_zz82) S_zz82 Try.f55.results.toList
noncomputable abbrev zz82_X2 (kX : St → Option (Int × Y2)) : Y3 → Int → Option (Int × Y2) := fun (a0 : Y3) (k1 : Int) => kX ([.val (.sl (.sl I)) (.o (.o .i)) a0, .val I .i k1] ++ List.replicate 17 .u)
noncomputable abbrev zz82_E2 (kX : St → Option (Int × Y2)) (kO : Nat → St → Option (Int × Y2)) : Ex → St → Option (Int × Y2) := exK zz82_z 0 ((A_zz82).shape 11) kX kO
theorem zz82_step2 (N : Nat) (m : Nat) (kX : St → Option (Int × Y2)) (kO : Nat → St → Option (Int × Y2)) (a0 : Y3) (k1 : Int) (i5 : Int) : zz82_R2 N (m + 1) (zz82_E2 kX kO) a0 k1 i5 = zz82_b2 (zz82_R2 N m (zz82_E2 kX kO)) (zz82_X2 kX) a0 k1 i5 := by kernel_rfl
theorem zz82_iter2 (N : Nat) (kX : St → Option (Int × Y2)) (kO : Nat → St → Option (Int × Y2)) : ∀ (n : Nat) (a0 : Y3) (k1 : Int) (i5 : Int), zz82_R2 N n (zz82_E2 kX kO) a0 k1 i5 = zz82_l2 N (zz82_X2 kX) n a0 k1 i5
  | 0, _, _, _ => rfl
  | m + 1, a0, k1, i5 => by
    have hrec : zz82_R2 N m (zz82_E2 kX kO) = (zz82_l2 N (zz82_X2 kX) m) := (funext fun a0 => (funext fun k1 => (funext fun i5 => zz82_iter2 N kX kO m a0 k1 i5)))
    refine (zz82_step2 N m kX kO a0 k1 i5).trans ?_
    rw [hrec]
    rfl
noncomputable abbrev zz82_K2 (N : Nat) : Ex → St → Option (Int × Y2) := (blockK 0 (seqK ((A_zz82).shape 11) (run (A_zz82) N (codeAt Try.f55 [1, 1])) zz82_z))
noncomputable abbrev zz82_k2 (N : Nat) : St → Option (Int × Y2) := fun st' => run (A_zz82) N (codeAt Try.f55 [1, 1]) st' zz82_z
theorem zz82_after2 (N : Nat) (a0 : Y3) (k1 : Int) : zz82_X2 (zz82_k2 N) a0 k1 = zz82_a2 a0 k1 := by kernel_rfl
theorem zz82_in2 (N : Nat) (a0 : Y3) (k1 : Int) (i5 : Int) : zz82_R2 N N (zz82_K2 N) a0 k1 i5 = zz82_F2 N a0 k1 i5 :=
  have h : zz82_X2 (zz82_k2 N) = (zz82_a2) := (funext fun a0 => (funext fun k1 => zz82_after2 N a0 k1))
  ((iter_ex (fun st => by kernel_rfl) (fun st => by kernel_rfl)).trans (zz82_iter2 N (zz82_k2 N) (fun j st => (zz82_K2 N) (.exit j) st) N a0 k1 i5)).trans (congrArg (fun k => zz82_l2 N k N a0 k1 i5) h)
theorem run0_zz82 (N : Nat) (x : (S_zz82).a.den) : runF (A_zz82) N Try.f55 S_zz82 x = (zz82_s (zz82_R2 N N (zz82_K2 N)) x.1 x.2.1) := by kernel_rfl
theorem run_zz82 (N : Nat) (x : (S_zz82).a.den) : runF (A_zz82) N Try.f55 S_zz82 x = zz82 N x.1 x.2.1 := by
  refine (run0_zz82 N x).trans ?_
  rw [(funext fun a0 => (funext fun k1 => (funext fun i5 => zz82_in2 N a0 k1 i5)))]
  rfl
theorem fn_zz82 : FnOk Try.prog 55 := ⟨_, Try.func55, by kernel_rfl, by kernel_rfl⟩
theorem good_zz82 : Gx.Good Try.prog 55 S_zz82 := good_of_run Try.func55 (of_decide_eq_true (by kernel_rfl)) fun x r h => ⟨A_zz82, big, mkCfg_ok tabOk, mkCfg_sigs (show SigsOk Try.prog [(16, S_zz79)] from ⟨⟨fn_zz79, good_zz79⟩, trivial⟩), (run_zz82 big x).trans h⟩

/-! zz83 -/
def zz83 (a_0 : Y2) (k_1 : Int) : Option (Int × (Y2 × Unit)) := (zz82 big a_0.1 k_1).bind fun r => some (r.1, ((r.2.1, ()), ()))
def S_zz83 : Sig := { a := (.pair (.pair (.sl (.sl I)) .unit) (.pair I .unit)), md := [1, 0], mf := [(.p (.o (.o .i)) .i)], m := (.pair (.pair (.sl (.sl I)) .unit) .unit), r := I, rf := .i, f := fun x => zz83 x.1 x.2.1 }
theorem fn_zz83 : FnOk Try.prog 24 := ⟨_, Try.func24, by kernel_rfl, by kernel_rfl⟩
theorem good_zz83 : Gx.Good Try.prog 24 S_zz83   := good_bx1 (A := mkCfg tab [] []) (T := 38) (TS := 31) (mkCfg_ok tabOk) Try.func24 (by kernel_rfl) (by kernel_rfl) fn_zz82 (by kernel_rfl) (by kernel_rfl) good_zz82

/-! zz84 -/
def zz84_b2 (rec : Y4 → Int → Int → Option (Int × Unit)) (k : Int → Option (Int × Unit)) (a0 : Y4) (k1 : Int) (i5 : Int) : Option (Int × Unit) :=
  cond (decide (i5 < (a0.length : Int)))
  ((atI a0 i5).bind fun xq1 =>
  cond (decide (xq1 ≠ k1))
  (some ((-1 : Int), (())))
  (rec a0 (IntKind.i64.wrap (k1 + (1 : Int))) (IntKind.i64.wrap (i5 + (1 : Int)))))
  (k k1)
def zz84_a2 (k1 : Int) : Option (Int × Unit) :=
  some (k1, (()))
def zz84_s (L2 : Y4 → Int → Int → Option (Int × Unit)) (a_0 : Y4) (k_1 : Int) : Option (Int × Unit) :=
  L2 a_0 k_1 (0 : Int)
def zz84_l2 (N : Nat) (k : Int → Option (Int × Unit)) : Nat → Y4 → Int → Int → Option (Int × Unit)
  | 0, _, _, _ => none
  | m + 1, a0, k1, i5 => zz84_b2 (zz84_l2 N k m) k a0 k1 i5
def zz84_F2 (N : Nat) (a0 : Y4) (k1 : Int) (i5 : Int) : Option (Int × Unit) := zz84_l2 N (zz84_a2) N a0 k1 i5
def zz84 (N : Nat) (a_0 : Y4) (k_1 : Int) : Option (Int × Unit) := zz84_s (zz84_F2 N) a_0 k_1
def S_zz84 : Sig := { a := (.pair (.sl I) (.pair I .unit)), md := [0, 0], mf := [], m := .unit, r := I, rf := .i, f := fun x => zz84 big x.1 x.2.1 }
def A_zz84 : Cfg := mkCfg tab [] [(4, [.as (.sl I) .i, .as I .i, .drop, .drop, .drop, .as I .i]), (15, [.drop, .as I .i])]
noncomputable def zz84_R2 (N n : Nat) (K : Ex → St → Option (Int × Unit)) (a0 : Y4) (k1 : Int) (i5 : Int) : Option (Int × Unit) := iter ((A_zz84).shape 4) (run (A_zz84) N (codeAt Try.f17 [1, 0, 1, 0, 0])) n ([.val (.sl I) .i a0, .val I .i k1, .u, .u, .u, .val I .i i5] ++ List.replicate 15 .u) K
noncomputable abbrev zz84_z : Ex → St → Option (Int × Unit) := finish (A_zz84) S_zz84 Try.f17.results.toList
noncomputable abbrev zz84_X2 (kX : St → Option (Int × Unit)) : Int → Option (Int × Unit) := fun (k1 : Int) => kX ([.u, .val I .i k1] ++ List.replicate 19 .u)
noncomputable abbrev zz84_E2 (kX : St → Option (Int × Unit)) (kO : Nat → St → Option (Int × Unit)) : Ex → St → Option (Int × Unit) := exK zz84_z 0 ((A_zz84).shape 15) kX kO
theorem zz84_step2 (N : Nat) (m : Nat) (kX : St → Option (Int × Unit)) (kO : Nat → St → Option (Int × Unit)) (a0 : Y4) (k1 : Int) (i5 : Int) : zz84_R2 N (m + 1) (zz84_E2 kX kO) a0 k1 i5 = zz84_b2 (zz84_R2 N m (zz84_E2 kX kO)) (zz84_X2 kX) a0 k1 i5 := by kernel_rfl
theorem zz84_iter2 (N : Nat) (kX : St → Option (Int × Unit)) (kO : Nat → St → Option (Int × Unit)) : ∀ (n : Nat) (a0 : Y4) (k1 : Int) (i5 : Int), zz84_R2 N n (zz84_E2 kX kO) a0 k1 i5 = zz84_l2 N (zz84_X2 kX) n a0 k1 i5
  | 0, _, _, _ => rfl
  | m + 1, a0, k1, i5 => by
    have hrec : zz84_R2 N m (zz84_E2 kX kO) = (zz84_l2 N (zz84_X2 kX) m) := (funext fun a0 => (funext fun k1 => (funext fun i5 => zz84_iter2 N kX kO m a0 k1 i5)))
    refine (zz84_step2 N m kX kO a0 k1 i5).trans ?_
    rw [hrec]
    rfl
noncomputable abbrev zz84_K2 (N : Nat) : Ex → St → Option (Int × Unit) := (blockK 0 (seqK ((A_zz84).shape 15) (run (A_zz84) N (codeAt Try.f17 [1, 1])) zz84_z))
noncomputable abbrev zz84_k2 (N : Nat) : St → Option (Int × Unit) := fun st' => run (A_zz84) N (codeAt Try.f17 [1, 1]) st' zz84_z
theorem zz84_after2 (N : Nat) (k1 : Int) : zz84_X2 (zz84_k2 N) k1 = zz84_a2 k1 := by kernel_rfl
theorem zz84_in2 (N : Nat) (a0 : Y4) (k1 : Int) (i5 : Int) : zz84_R2 N N (zz84_K2 N) a0 k1 i5 = zz84_F2 N a0 k1 i5 :=
  have h : zz84_X2 (zz84_k2 N) = (zz84_a2) := (funext fun k1 => zz84_after2 N k1)
  ((iter_ex (fun st => by kernel_rfl) (fun st => by kernel_rfl)).trans (zz84_iter2 N (zz84_k2 N) (fun j st => (zz84_K2 N) (.exit j) st) N a0 k1 i5)).trans (congrArg (fun k => zz84_l2 N k N a0 k1 i5) h)
theorem run0_zz84 (N : Nat) (x : (S_zz84).a.den) : runF (A_zz84) N Try.f17 S_zz84 x = (zz84_s (zz84_R2 N N (zz84_K2 N)) x.1 x.2.1) := by kernel_rfl
theorem run_zz84 (N : Nat) (x : (S_zz84).a.den) : runF (A_zz84) N Try.f17 S_zz84 x = zz84 N x.1 x.2.1 := by
  refine (run0_zz84 N x).trans ?_
  rw [(funext fun a0 => (funext fun k1 => (funext fun i5 => zz84_in2 N a0 k1 i5)))]
  rfl
theorem fn_zz84 : FnOk Try.prog 17 := ⟨_, Try.func17, by kernel_rfl, by kernel_rfl⟩
theorem good_zz84 : Gx.Good Try.prog 17 S_zz84 := good_of_run Try.func17 (of_decide_eq_true (by kernel_rfl)) fun x r h => ⟨A_zz84, big, mkCfg_ok tabOk, mkCfg_sigs (show SigsOk Try.prog [] from trivial), (run_zz84 big x).trans h⟩

/-! zz85 -/
def zz85_b2 (rec : Y3 → Int → Int → Option (Int × Unit)) (k : Int → Option (Int × Unit)) (a0 : Y3) (k1 : Int) (i5 : Int) : Option (Int × Unit) :=
  cond (decide (i5 < (a0.length : Int)))
  ((atI a0 i5).bind fun xq1 =>
  (zz84 big xq1 k1).bind fun rq2 =>
  cond (decide (rq2.1 < (0 : Int)))
  (some ((-1 : Int), (())))
  (rec a0 rq2.1 (IntKind.i64.wrap (i5 + (1 : Int)))))
  (k k1)
def zz85_a2 (k1 : Int) : Option (Int × Unit) :=
  some (k1, (()))
def zz85_s (L2 : Y3 → Int → Int → Option (Int × Unit)) (a_0 : Y3) (k_1 : Int) : Option (Int × Unit) :=
  L2 a_0 k_1 (0 : Int)
def zz85_l2 (N : Nat) (k : Int → Option (Int × Unit)) : Nat → Y3 → Int → Int → Option (Int × Unit)
  | 0, _, _, _ => none
  | m + 1, a0, k1, i5 => zz85_b2 (zz85_l2 N k m) k a0 k1 i5
def zz85_F2 (N : Nat) (a0 : Y3) (k1 : Int) (i5 : Int) : Option (Int × Unit) := zz85_l2 N (zz85_a2) N a0 k1 i5
def zz85 (N : Nat) (a_0 : Y3) (k_1 : Int) : Option (Int × Unit) := zz85_s (zz85_F2 N) a_0 k_1
def S_zz85 : Sig := { a := (.pair (.sl (.sl I)) (.pair I .unit)), md := [0, 0], mf := [], m := .unit, r := I, rf := .i, f := fun x => zz85 big x.1 x.2.1 }
def A_zz85 : Cfg := mkCfg tab [(17, S_zz84)] [(4, [.as (.sl (.sl I)) .i, .as I .i, .drop, .drop, .drop, .as I .i]), (15, [.drop, .as I .i])]
noncomputable def zz85_R2 (N n : Nat) (K : Ex → St → Option (Int × Unit)) (a0 : Y3) (k1 : Int) (i5 : Int) : Option (Int × Unit) := iter ((A_zz85).shape 4) (run (A_zz85) N (codeAt Try.f74 [1, 0, 1, 0, 0])) n ([.val (.sl (.sl I)) .i a0, .val I .i k1, .u, .u, .u, .val I .i i5] ++ List.replicate 15 .u) K
noncomputable abbrev zz85_z : Ex → St → Option (Int × Unit) := finish (A_zz85) S_zz85 Try.f74.results.toList
noncomputable abbrev zz85_X2 (kX : St → Option (Int × Unit)) : Int → Option (Int × Unit) := fun (k1 : Int) => kX ([.u, .val I .i k1] ++ List.replicate 19 .u)
noncomputable abbrev zz85_E2 (kX : St → Option (Int × Unit)) (kO : Nat → St → Option (Int × Unit)) : Ex → St → Option (Int × Unit) := exK zz85_z 0 ((A_zz85).shape 15) kX kO
theorem zz85_step2 (N : Nat) (m : Nat) (kX : St → Option (Int × Unit)) (kO : Nat → St → Option (Int × Unit)) (a0 : Y3) (k1 : Int) (i5 : Int) : zz85_R2 N (m + 1) (zz85_E2 kX kO) a0 k1 i5 = zz85_b2 (zz85_R2 N m (zz85_E2 kX kO)) (zz85_X2 kX) a0 k1 i5 := by kernel_rfl
theorem zz85_iter2 (N : Nat) (kX : St → Option (Int × Unit)) (kO : Nat → St → Option (Int × Unit)) : ∀ (n : Nat) (a0 : Y3) (k1 : Int) (i5 : Int), zz85_R2 N n (zz85_E2 kX kO) a0 k1 i5 = zz85_l2 N (zz85_X2 kX) n a0 k1 i5
  | 0, _, _, _ => rfl
  | m + 1, a0, k1, i5 => by
    have hrec : zz85_R2 N m (zz85_E2 kX kO) = (zz85_l2 N (zz85_X2 kX) m) := (funext fun a0 => (funext fun k1 => (funext fun i5 => zz85_iter2 N kX kO m a0 k1 i5)))
    refine (zz85_step2 N m kX kO a0 k1 i5).trans ?_
    rw [hrec]
    rfl
noncomputable abbrev zz85_K2 (N : Nat) : Ex → St → Option (Int × Unit) := (blockK 0 (seqK ((A_zz85).shape 15) (run (A_zz85) N (codeAt Try.f74 [1, 1])) zz85_z))
noncomputable abbrev zz85_k2 (N : Nat) : St → Option (Int × Unit) := fun st' => run (A_zz85) N (codeAt Try.f74 [1, 1]) st' zz85_z
theorem zz85_after2 (N : Nat) (k1 : Int) : zz85_X2 (zz85_k2 N) k1 = zz85_a2 k1 := by kernel_rfl
theorem zz85_in2 (N : Nat) (a0 : Y3) (k1 : Int) (i5 : Int) : zz85_R2 N N (zz85_K2 N) a0 k1 i5 = zz85_F2 N a0 k1 i5 :=
  have h : zz85_X2 (zz85_k2 N) = (zz85_a2) := (funext fun k1 => zz85_after2 N k1)
  ((iter_ex (fun st => by kernel_rfl) (fun st => by kernel_rfl)).trans (zz85_iter2 N (zz85_k2 N) (fun j st => (zz85_K2 N) (.exit j) st) N a0 k1 i5)).trans (congrArg (fun k => zz85_l2 N k N a0 k1 i5) h)
theorem run0_zz85 (N : Nat) (x : (S_zz85).a.den) : runF (A_zz85) N Try.f74 S_zz85 x = (zz85_s (zz85_R2 N N (zz85_K2 N)) x.1 x.2.1) := by kernel_rfl
theorem run_zz85 (N : Nat) (x : (S_zz85).a.den) : runF (A_zz85) N Try.f74 S_zz85 x = zz85 N x.1 x.2.1 := by
  refine (run0_zz85 N x).trans ?_
  rw [(funext fun a0 => (funext fun k1 => (funext fun i5 => zz85_in2 N a0 k1 i5)))]
  rfl
theorem fn_zz85 : FnOk Try.prog 74 := ⟨_, Try.func74, by kernel_rfl, by kernel_rfl⟩
theorem good_zz85 : Gx.Good Try.prog 74 S_zz85 := good_of_run Try.func74 (of_decide_eq_true (by kernel_rfl)) fun x r h => ⟨A_zz85, big, mkCfg_ok tabOk, mkCfg_sigs (show SigsOk Try.prog [(17, S_zz84)] from ⟨⟨fn_zz84, good_zz84⟩, trivial⟩), (run_zz85 big x).trans h⟩

/-! zz86 -/
def zz86_s (a_0 : Y2) (k_1 : Int) : Option (Int × Unit) :=
  (zz85 big a_0.1 k_1).bind fun rq1 =>
  cond (decide (rq1.1 < (0 : Int)))
  (some ((-1 : Int), (())))
  (some (rq1.1, (())))
def zz86 (a_0 : Y2) (k_1 : Int) : Option (Int × Unit) := zz86_s a_0 k_1
def S_zz86 : Sig := { a := (.pair (.pair (.sl (.sl I)) .unit) (.pair I .unit)), md := [0, 0], mf := [], m := .unit, r := I, rf := .i, f := fun x => zz86 x.1 x.2.1 }
def A_zz86 : Cfg := mkCfg tab [(74, S_zz85)] []
theorem run_zz86 (N : Nat) (x : (S_zz86).a.den) : runF (A_zz86) N Try.f33 S_zz86 x = zz86 x.1 x.2.1 := by kernel_rfl
theorem fn_zz86 : FnOk Try.prog 33 := ⟨_, Try.func33, by kernel_rfl, by kernel_rfl⟩
theorem good_zz86 : Gx.Good Try.prog 33 S_zz86 := good_of_run Try.func33 (of_decide_eq_true (by kernel_rfl)) fun x r h => ⟨A_zz86, big, mkCfg_ok tabOk, mkCfg_sigs (show SigsOk Try.prog [(74, S_zz85)] from ⟨⟨fn_zz85, good_zz85⟩, trivial⟩), (run_zz86 big x).trans h⟩

/-! laws_FnExactLatticeOfRing -/
def laws_FnExactLatticeOfRing_s (aA_0 : Y7) : Option (Bool × Unit) :=
  (zz3 aA_0 (1048576 : Int)).bind fun rq1 =>
  cond (decide (rq1.1 < (0 : Int)))
  (some (true, (())))
  ((zz7 aA_0).bind fun rq2 =>
  (zz35 big rq2.1).bind fun rq3 =>
  (zz7 aA_0).bind fun rq4 =>
  (zz72 rq4.1).bind fun rq5 =>
  (zz75 rq5.1.1 rq3.1.1).bind fun rq6 =>
  cond (!rq6.1)
  (some (false, (())))
  (cond (((((), rq5.1.2).2).1) != ((((), rq3.1.2).2).1))
  (some (false, (())))
  ((zz7 aA_0).bind fun rq7 =>
  (zz78 rq4.1 rq7.1).bind fun rq8 =>
  cond (!rq8.1)
  (some (false, (())))
  ((zz81 rq4.1 (1 : Int)).bind fun rq9 =>
  cond (decide (rq9.1 < (0 : Int)))
  (some (false, (())))
  ((zz75 rq5.1.1 rq3.1.1).bind fun rq10 =>
  cond (!rq10.1)
  (some (false, (())))
  (cond (((((), rq5.1.2).2).1) != ((((), rq3.1.2).2).1))
  (some (false, (())))
  ((zz83 rq5.1.1 (1 : Int)).bind fun rq11 =>
  (zz86 rq11.2.1 (1 : Int)).bind fun rq12 =>
  cond (decide (rq12.1 < (0 : Int)))
  (some (false, (())))
  (cond (decide (rq12.1 ≠ rq11.1))
  (some (false, (())))
  ((zz7 aA_0).bind fun rq13 =>
  (zz72 rq13.1).bind fun rq14 =>
  (zz75 rq14.1.1 rq3.1.1).bind fun rq15 =>
  cond (!rq15.1)
  (some (false, (())))
  (cond (((((), rq14.1.2).2).1) != ((((), rq3.1.2).2).1))
  (some (false, (())))
  ((zz86 rq11.2.1 (1 : Int)).bind fun rq16 =>
  cond (decide (rq16.1 < (0 : Int)))
  (some (false, (())))
  (cond (decide (rq16.1 ≠ rq11.1))
  (some (false, (())))
  (some (true, (())))))))))))))))
def laws_FnExactLatticeOfRing (aA_0 : Y7) : Option (Bool × Unit) := laws_FnExactLatticeOfRing_s aA_0
def S_laws_FnExactLatticeOfRing : Sig := { a := (.pair (.pair I (.pair (.sl (.pair I (.pair (.sl I) .unit))) .unit)) .unit), md := [0], mf := [], m := .unit, r := .bool, rf := .i, f := fun x => laws_FnExactLatticeOfRing x.1 }
def A_laws_FnExactLatticeOfRing : Cfg := mkCfg tab [(27, S_zz3), (29, S_zz7), (28, S_zz35), (30, S_zz72), (23, S_zz75), (31, S_zz78), (32, S_zz81), (24, S_zz83), (33, S_zz86)] []
theorem run_laws_FnExactLatticeOfRing (N : Nat) (x : (S_laws_FnExactLatticeOfRing).a.den) : runF (A_laws_FnExactLatticeOfRing) N Try.f7 S_laws_FnExactLatticeOfRing x = laws_FnExactLatticeOfRing x.1 := by kernel_rfl
theorem fn_laws_FnExactLatticeOfRing : FnOk Try.prog 7 := ⟨_, Try.func7, by kernel_rfl, by kernel_rfl⟩
theorem good_laws_FnExactLatticeOfRing : Gx.Good Try.prog 7 S_laws_FnExactLatticeOfRing := good_of_run Try.func7 (of_decide_eq_true (by kernel_rfl)) fun x r h => ⟨A_laws_FnExactLatticeOfRing, big, mkCfg_ok tabOk, mkCfg_sigs (show SigsOk Try.prog [(27, S_zz3), (29, S_zz7), (28, S_zz35), (30, S_zz72), (23, S_zz75), (31, S_zz78), (32, S_zz81), (24, S_zz83), (33, S_zz86)] from ⟨⟨fn_zz3, good_zz3⟩, ⟨fn_zz7, good_zz7⟩, ⟨fn_zz35, good_zz35⟩, ⟨fn_zz72, good_zz72⟩, ⟨fn_zz75, good_zz75⟩, ⟨fn_zz78, good_zz78⟩, ⟨fn_zz81, good_zz81⟩, ⟨fn_zz83, good_zz83⟩, ⟨fn_zz86, good_zz86⟩, trivial⟩), (run_laws_FnExactLatticeOfRing big x).trans h⟩
end Go.Proofs.Ytiklgbjlggcejaa
