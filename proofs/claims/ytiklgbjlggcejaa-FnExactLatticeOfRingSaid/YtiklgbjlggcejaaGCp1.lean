import Derived.Test.YtiklgbjlggcejaaGxBox
import Derived.Test.YtiklgbjlggcejaaRows
import Derived.Test.YtiklgbjlggcejaaChecked
import Derived.KernelRfl
set_option maxRecDepth 100000
set_option linter.unusedVariables false
namespace Go.Proofs.Ytiklgbjlggcejaa
open Go Go.Gx Go.Proofs

abbrev I := Ty.int .i64
abbrev Y1 := (Option ((List (List Bool)) × ((List (List Int)) × ((List (List Int)) × Unit))))
abbrev Y2 := ((List (List Int)) × Unit)
abbrev Y7 := (Int × ((List (Int × ((List Int) × Unit))) × Unit))
abbrev Y6 := (Int × ((List Int) × Unit))
abbrev Y3 := (List (List Int))
abbrev Y4 := (List Int)
abbrev Y5 := (List (List Bool))
def tab : Tab := { es := [(22, I, .i), (31, (.sl I), (.o .i)), (45, (.pair I (.pair (.sl I) .unit)), (.p .i (.p (.o .i) .i))), (51, (.pair I (.pair (.sl I) .unit)), (.p .i (.p (.o .i) .i))), (67, .bool, .i), (78, (.sl .bool), (.o .i))], ts := [(3, I, .i), (4, .bool, .i), (22, (.sl I), (.o .i)), (31, (.sl (.sl I)), (.o (.o .i))), (38, (.pair (.sl (.sl I)) .unit), (.p (.o (.o .i)) .i)), (45, (.sl (.pair I (.pair (.sl I) .unit))), (.o (.p .i (.p (.o .i) .i)))), (47, (.pair I (.pair (.sl (.pair I (.pair (.sl I) .unit))) .unit)), (.p .i (.p (.o (.p .i (.p (.o .i) .i))) .i))), (51, (.sl (.pair I (.pair (.sl I) .unit))), (.o (.p .i (.p (.o .i) .i)))), (53, (.pair I (.pair (.sl (.pair I (.pair (.sl I) .unit))) .unit)), (.p .i (.p (.o (.p .i (.p (.o .i) .i))) .i))), (67, (.sl .bool), (.o .i)), (71, (.opt (.pair (.sl (.sl .bool)) (.pair (.sl (.sl I)) (.pair (.sl (.sl I)) .unit)))), .i), (78, (.sl (.sl .bool)), (.o (.o .i))), (80, (.pair (.sl (.sl .bool)) (.pair (.sl (.sl I)) (.pair (.sl (.sl I)) .unit))), (.p (.o (.o .i)) (.p (.o (.o .i)) (.p (.o (.o .i)) .i)))), (89, (.pair I (.pair (.sl I) .unit)), (.p .i (.p (.o .i) .i))), (106, (.pair I (.pair (.sl I) .unit)), (.p .i (.p (.o .i) .i)))], fs := [(38, [((.sl (.sl I)), (.o (.o .i)))]), (47, [(I, .i), ((.sl (.pair I (.pair (.sl I) .unit))), (.o (.p .i (.p (.o .i) .i))))]), (53, [(I, .i), ((.sl (.pair I (.pair (.sl I) .unit))), (.o (.p .i (.p (.o .i) .i))))]), (80, [((.sl (.sl .bool)), (.o (.o .i))), ((.sl (.sl I)), (.o (.o .i))), ((.sl (.sl I)), (.o (.o .i)))]), (89, [(I, .i), ((.sl I), (.o .i))]), (106, [(I, .i), ((.sl I), (.o .i))])], ars := [] }
theorem tabOk : tab.chk Try.prog = true := by kernel_rfl

/-! zz0 -/
def zz0_s (a_0 : Y4) (left_1 : Int) : Option (Int × Unit) :=
  cond (decide ((IntKind.i64.wrap (left_1 - (a_0.length : Int))) < (0 : Int)))
  (some ((-1 : Int), (())))
  (some (IntKind.i64.wrap (left_1 - (a_0.length : Int)), (())))
def zz0 (a_0 : Y4) (left_1 : Int) : Option (Int × Unit) := zz0_s a_0 left_1
def S_zz0 : Sig := { a := (.pair (.sl I) (.pair I .unit)), md := [0, 0], mf := [], m := .unit, r := I, rf := .i, f := fun x => zz0 x.1 x.2.1 }
def A_zz0 : Cfg := mkCfg tab [] []
theorem run_zz0 (N : Nat) (x : (S_zz0).a.den) : runF (A_zz0) N Try.f80 S_zz0 x = zz0 x.1 x.2.1 := by kernel_rfl
theorem fn_zz0 : FnOk Try.prog 80 := ⟨_, Try.func80, by kernel_rfl, by kernel_rfl⟩
theorem good_zz0 : Gx.Good Try.prog 80 S_zz0 := good_of_run Try.func80 (of_decide_eq_true (by kernel_rfl)) fun x r h => ⟨A_zz0, big, mkCfg_ok tabOk, mkCfg_sigs (show SigsOk Try.prog [] from trivial), (run_zz0 big x).trans h⟩

/-! zz1 -/
def zz1_s (a_0 : Y6) (left_1 : Int) : Option (Int × Unit) :=
  (zz0 a_0.2.1 left_1).bind fun rq1 =>
  cond (decide (rq1.1 < (0 : Int)))
  (some ((-1 : Int), (())))
  (some (rq1.1, (())))
def zz1 (a_0 : Y6) (left_1 : Int) : Option (Int × Unit) := zz1_s a_0 left_1
def S_zz1 : Sig := { a := (.pair (.pair I (.pair (.sl I) .unit)) (.pair I .unit)), md := [0, 0], mf := [], m := .unit, r := I, rf := .i, f := fun x => zz1 x.1 x.2.1 }
def A_zz1 : Cfg := mkCfg tab [(80, S_zz0)] []
theorem run_zz1 (N : Nat) (x : (S_zz1).a.den) : runF (A_zz1) N Try.f89 S_zz1 x = zz1 x.1 x.2.1 := by kernel_rfl
theorem fn_zz1 : FnOk Try.prog 89 := ⟨_, Try.func89, by kernel_rfl, by kernel_rfl⟩
theorem good_zz1 : Gx.Good Try.prog 89 S_zz1 := good_of_run Try.func89 (of_decide_eq_true (by kernel_rfl)) fun x r h => ⟨A_zz1, big, mkCfg_ok tabOk, mkCfg_sigs (show SigsOk Try.prog [(80, S_zz0)] from ⟨⟨fn_zz0, good_zz0⟩, trivial⟩), (run_zz1 big x).trans h⟩

/-! zz2 -/
def zz2_b5 (rec : (List Y6) → Int → Int → Option (Int × Unit)) (k : Int → Option (Int × Unit)) (a0 : (List Y6)) (left1 : Int) (i5 : Int) : Option (Int × Unit) :=
  cond (decide (i5 < (a0.length : Int)))
  ((atI a0 i5).bind fun xq1 =>
  (zz1 xq1 left1).bind fun rq2 =>
  cond (decide (rq2.1 < (0 : Int)))
  (some ((-1 : Int), (())))
  (rec a0 rq2.1 (IntKind.i64.wrap (i5 + (1 : Int)))))
  (k left1)
def zz2_a5 (left1 : Int) : Option (Int × Unit) :=
  some (left1, (()))
def zz2_s (L5 : (List Y6) → Int → Int → Option (Int × Unit)) (a_0 : (List Y6)) (left_1 : Int) : Option (Int × Unit) :=
  cond (decide ((IntKind.i64.wrap (left_1 - (a_0.length : Int))) < (0 : Int)))
  (some ((-1 : Int), (())))
  (L5 a_0 (IntKind.i64.wrap (left_1 - (a_0.length : Int))) (0 : Int))
def zz2_l5 (N : Nat) (k : Int → Option (Int × Unit)) : Nat → (List Y6) → Int → Int → Option (Int × Unit)
  | 0, _, _, _ => none
  | m + 1, a0, left1, i5 => zz2_b5 (zz2_l5 N k m) k a0 left1 i5
def zz2_F5 (N : Nat) (a0 : (List Y6)) (left1 : Int) (i5 : Int) : Option (Int × Unit) := zz2_l5 N (zz2_a5) N a0 left1 i5
def zz2 (N : Nat) (a_0 : (List Y6)) (left_1 : Int) : Option (Int × Unit) := zz2_s (zz2_F5 N) a_0 left_1
def S_zz2 : Sig := { a := (.pair (.sl (.pair I (.pair (.sl I) .unit))) (.pair I .unit)), md := [0, 0], mf := [], m := .unit, r := I, rf := .i, f := fun x => zz2 big x.1 x.2.1 }
def A_zz2 : Cfg := mkCfg tab [(89, S_zz1)] [(10, [.as (.sl (.pair I (.pair (.sl I) .unit))) .i, .as I .i, .drop, .drop, .drop, .as I .i]), (21, [.drop, .as I .i])]
noncomputable def zz2_R5 (N n : Nat) (K : Ex → St → Option (Int × Unit)) (a0 : (List Y6)) (left1 : Int) (i5 : Int) : Option (Int × Unit) := iter ((A_zz2).shape 10) (run (A_zz2) N (codeAt Try.f56 [1, 1, 1, 0, 1, 0, 0])) n ([.val (.sl (.pair I (.pair (.sl I) .unit))) .i a0, .val I .i left1, .u, .u, .u, .val I .i i5] ++ List.replicate 21 .u) K
noncomputable abbrev zz2_z : Ex → St → Option (Int × Unit) := finish (A_zz2) S_zz2 Try.f56.results.toList
noncomputable abbrev zz2_X5 (kX : St → Option (Int × Unit)) : Int → Option (Int × Unit) := fun (left1 : Int) => kX ([.u, .val I .i left1] ++ List.replicate 25 .u)
noncomputable abbrev zz2_E5 (kX : St → Option (Int × Unit)) (kO : Nat → St → Option (Int × Unit)) : Ex → St → Option (Int × Unit) := exK zz2_z 0 ((A_zz2).shape 21) kX kO
theorem zz2_step5 (N : Nat) (m : Nat) (kX : St → Option (Int × Unit)) (kO : Nat → St → Option (Int × Unit)) (a0 : (List Y6)) (left1 : Int) (i5 : Int) : zz2_R5 N (m + 1) (zz2_E5 kX kO) a0 left1 i5 = zz2_b5 (zz2_R5 N m (zz2_E5 kX kO)) (zz2_X5 kX) a0 left1 i5 := by kernel_rfl
theorem zz2_iter5 (N : Nat) (kX : St → Option (Int × Unit)) (kO : Nat → St → Option (Int × Unit)) : ∀ (n : Nat) (a0 : (List Y6)) (left1 : Int) (i5 : Int), zz2_R5 N n (zz2_E5 kX kO) a0 left1 i5 = zz2_l5 N (zz2_X5 kX) n a0 left1 i5
  | 0, _, _, _ => rfl
  | m + 1, a0, left1, i5 => by
    have hrec : zz2_R5 N m (zz2_E5 kX kO) = (zz2_l5 N (zz2_X5 kX) m) := (funext fun a0 => (funext fun left1 => (funext fun i5 => zz2_iter5 N kX kO m a0 left1 i5)))
    refine (zz2_step5 N m kX kO a0 left1 i5).trans ?_
    rw [hrec]
    rfl
noncomputable abbrev zz2_K5 (N : Nat) : Ex → St → Option (Int × Unit) := (blockK 0 (seqK ((A_zz2).shape 21) (run (A_zz2) N (codeAt Try.f56 [1, 1, 1, 1])) zz2_z))
noncomputable abbrev zz2_k5 (N : Nat) : St → Option (Int × Unit) := fun st' => run (A_zz2) N (codeAt Try.f56 [1, 1, 1, 1]) st' zz2_z
theorem zz2_after5 (N : Nat) (left1 : Int) : zz2_X5 (zz2_k5 N) left1 = zz2_a5 left1 := by kernel_rfl
theorem zz2_in5 (N : Nat) (a0 : (List Y6)) (left1 : Int) (i5 : Int) : zz2_R5 N N (zz2_K5 N) a0 left1 i5 = zz2_F5 N a0 left1 i5 :=
  have h : zz2_X5 (zz2_k5 N) = (zz2_a5) := (funext fun left1 => zz2_after5 N left1)
  ((iter_ex (fun st => by kernel_rfl) (fun st => by kernel_rfl)).trans (zz2_iter5 N (zz2_k5 N) (fun j st => (zz2_K5 N) (.exit j) st) N a0 left1 i5)).trans (congrArg (fun k => zz2_l5 N k N a0 left1 i5) h)
theorem run0_zz2 (N : Nat) (x : (S_zz2).a.den) : runF (A_zz2) N Try.f56 S_zz2 x = (zz2_s (zz2_R5 N N (zz2_K5 N)) x.1 x.2.1) := by kernel_rfl
theorem run_zz2 (N : Nat) (x : (S_zz2).a.den) : runF (A_zz2) N Try.f56 S_zz2 x = zz2 N x.1 x.2.1 := by
  refine (run0_zz2 N x).trans ?_
  rw [(funext fun a0 => (funext fun left1 => (funext fun i5 => zz2_in5 N a0 left1 i5)))]
  rfl
theorem fn_zz2 : FnOk Try.prog 56 := ⟨_, Try.func56, by kernel_rfl, by kernel_rfl⟩
theorem good_zz2 : Gx.Good Try.prog 56 S_zz2 := good_of_run Try.func56 (of_decide_eq_true (by kernel_rfl)) fun x r h => ⟨A_zz2, big, mkCfg_ok tabOk, mkCfg_sigs (show SigsOk Try.prog [(89, S_zz1)] from ⟨⟨fn_zz1, good_zz1⟩, trivial⟩), (run_zz2 big x).trans h⟩

/-! zz3 -/
def zz3_s (a_0 : Y7) (left_1 : Int) : Option (Int × Unit) :=
  (zz2 big a_0.2.1 left_1).bind fun rq1 =>
  cond (decide (rq1.1 < (0 : Int)))
  (some ((-1 : Int), (())))
  (some (rq1.1, (())))
def zz3 (a_0 : Y7) (left_1 : Int) : Option (Int × Unit) := zz3_s a_0 left_1
def S_zz3 : Sig := { a := (.pair (.pair I (.pair (.sl (.pair I (.pair (.sl I) .unit))) .unit)) (.pair I .unit)), md := [0, 0], mf := [], m := .unit, r := I, rf := .i, f := fun x => zz3 x.1 x.2.1 }
def A_zz3 : Cfg := mkCfg tab [(56, S_zz2)] []
theorem run_zz3 (N : Nat) (x : (S_zz3).a.den) : runF (A_zz3) N Try.f27 S_zz3 x = zz3 x.1 x.2.1 := by kernel_rfl
theorem fn_zz3 : FnOk Try.prog 27 := ⟨_, Try.func27, by kernel_rfl, by kernel_rfl⟩
theorem good_zz3 : Gx.Good Try.prog 27 S_zz3 := good_of_run Try.func27 (of_decide_eq_true (by kernel_rfl)) fun x r h => ⟨A_zz3, big, mkCfg_ok tabOk, mkCfg_sigs (show SigsOk Try.prog [(56, S_zz2)] from ⟨⟨fn_zz2, good_zz2⟩, trivial⟩), (run_zz3 big x).trans h⟩

/-! zz4 -/
def zz4_b3 (rec : Y4 → Y4 → Int → Option (Y4 × Unit)) (k : Y4 → Option (Y4 × Unit)) (a0 : Y4) (out3 : Y4) (i4 : Int) : Option (Y4 × Unit) :=
  cond (decide (i4 < (a0.length : Int)))
  ((atI a0 i4).bind fun xq3 =>
  (atI out3 i4).bind fun _ =>
  (out3[i4.toNat]?).bind fun xq4 =>
  rec a0 (out3.set i4.toNat xq3) (IntKind.i64.wrap (i4 + (1 : Int))))
  (k out3)
def zz4_a3 (out3 : Y4) : Option (Y4 × Unit) :=
  some (out3, (()))
def zz4_s (L3 : Y4 → Y4 → Int → Option (Y4 × Unit)) (a_0 : Y4) : Option (Y4 × Unit) :=
  (mkI (0 : Int) (a_0.length : Int)).bind fun xq1 => (mkI (0 : Int) (a_0.length : Int)).bind fun xq2 => cond (decide ((a_0.length : Int) ≤ (a_0.length : Int)))
  (L3 a_0 xq2 (0 : Int))
  none
def zz4_l3 (N : Nat) (k : Y4 → Option (Y4 × Unit)) : Nat → Y4 → Y4 → Int → Option (Y4 × Unit)
  | 0, _, _, _ => none
  | m + 1, a0, out3, i4 => zz4_b3 (zz4_l3 N k m) k a0 out3 i4
def zz4_F3 (N : Nat) (a0 : Y4) (out3 : Y4) (i4 : Int) : Option (Y4 × Unit) := zz4_l3 N (zz4_a3) N a0 out3 i4
def zz4 (N : Nat) (a_0 : Y4) : Option (Y4 × Unit) := zz4_s (zz4_F3 N) a_0
def S_zz4 : Sig := { a := (.pair (.sl I) .unit), md := [0], mf := [], m := .unit, r := (.sl I), rf := (.o .i), f := fun x => zz4 big x.1 }
def A_zz4 : Cfg := mkCfg tab [] [(6, [.as (.sl I) .i, .drop, .drop, .as (.sl I) (.o .i), .as I .i]), (13, [.drop, .drop, .drop, .as (.sl I) (.o .i)])]
noncomputable def zz4_R3 (N n : Nat) (K : Ex → St → Option (Y4 × Unit)) (a0 : Y4) (out3 : Y4) (i4 : Int) : Option (Y4 × Unit) := iter ((A_zz4).shape 6) (run (A_zz4) N (codeAt Try.f9 [1, 1, 0, 1, 0, 0])) n ([.val (.sl I) .i a0, .u, .u, .val (.sl I) (.o .i) out3, .val I .i i4] ++ List.replicate 17 .u) K
noncomputable abbrev zz4_z : Ex → St → Option (Y4 × Unit) := finish (A_zz4) S_zz4 Try.f9.results.toList
noncomputable abbrev zz4_X3 (kX : St → Option (Y4 × Unit)) : Y4 → Option (Y4 × Unit) := fun (out3 : Y4) => kX ([.u, .u, .u, .val (.sl I) (.o .i) out3] ++ List.replicate 18 .u)
noncomputable abbrev zz4_E3 (kX : St → Option (Y4 × Unit)) (kO : Nat → St → Option (Y4 × Unit)) : Ex → St → Option (Y4 × Unit) := exK zz4_z 0 ((A_zz4).shape 13) kX kO
theorem zz4_step3 (N : Nat) (m : Nat) (kX : St → Option (Y4 × Unit)) (kO : Nat → St → Option (Y4 × Unit)) (a0 : Y4) (out3 : Y4) (i4 : Int) : zz4_R3 N (m + 1) (zz4_E3 kX kO) a0 out3 i4 = zz4_b3 (zz4_R3 N m (zz4_E3 kX kO)) (zz4_X3 kX) a0 out3 i4 := by kernel_rfl
theorem zz4_iter3 (N : Nat) (kX : St → Option (Y4 × Unit)) (kO : Nat → St → Option (Y4 × Unit)) : ∀ (n : Nat) (a0 : Y4) (out3 : Y4) (i4 : Int), zz4_R3 N n (zz4_E3 kX kO) a0 out3 i4 = zz4_l3 N (zz4_X3 kX) n a0 out3 i4
  | 0, _, _, _ => rfl
  | m + 1, a0, out3, i4 => by
    have hrec : zz4_R3 N m (zz4_E3 kX kO) = (zz4_l3 N (zz4_X3 kX) m) := (funext fun a0 => (funext fun out3 => (funext fun i4 => zz4_iter3 N kX kO m a0 out3 i4)))
    refine (zz4_step3 N m kX kO a0 out3 i4).trans ?_
    rw [hrec]
    rfl
noncomputable abbrev zz4_K3 (N : Nat) : Ex → St → Option (Y4 × Unit) := (blockK 0 (seqK ((A_zz4).shape 13) (run (A_zz4) N (codeAt Try.f9 [1, 1, 1])) zz4_z))
noncomputable abbrev zz4_k3 (N : Nat) : St → Option (Y4 × Unit) := fun st' => run (A_zz4) N (codeAt Try.f9 [1, 1, 1]) st' zz4_z
theorem zz4_after3 (N : Nat) (out3 : Y4) : zz4_X3 (zz4_k3 N) out3 = zz4_a3 out3 := by kernel_rfl
theorem zz4_in3 (N : Nat) (a0 : Y4) (out3 : Y4) (i4 : Int) : zz4_R3 N N (zz4_K3 N) a0 out3 i4 = zz4_F3 N a0 out3 i4 :=
  have h : zz4_X3 (zz4_k3 N) = (zz4_a3) := (funext fun out3 => zz4_after3 N out3)
  ((iter_ex (fun st => by kernel_rfl) (fun st => by kernel_rfl)).trans (zz4_iter3 N (zz4_k3 N) (fun j st => (zz4_K3 N) (.exit j) st) N a0 out3 i4)).trans (congrArg (fun k => zz4_l3 N k N a0 out3 i4) h)
theorem run0_zz4 (N : Nat) (x : (S_zz4).a.den) : runF (A_zz4) N Try.f9 S_zz4 x = (zz4_s (zz4_R3 N N (zz4_K3 N)) x.1) := by kernel_rfl
theorem run_zz4 (N : Nat) (x : (S_zz4).a.den) : runF (A_zz4) N Try.f9 S_zz4 x = zz4 N x.1 := by
  refine (run0_zz4 N x).trans ?_
  rw [(funext fun a0 => (funext fun out3 => (funext fun i4 => zz4_in3 N a0 out3 i4)))]
  rfl
theorem fn_zz4 : FnOk Try.prog 9 := ⟨_, Try.func9, by kernel_rfl, by kernel_rfl⟩
theorem good_zz4 : Gx.Good Try.prog 9 S_zz4 := good_of_run Try.func9 (of_decide_eq_true (by kernel_rfl)) fun x r h => ⟨A_zz4, big, mkCfg_ok tabOk, mkCfg_sigs (show SigsOk Try.prog [] from trivial), (run_zz4 big x).trans h⟩

/-! zz5 -/
def zz5_s (a_0 : Y6) : Option (Y6 × Unit) :=
  (zz4 big a_0.2.1).bind fun rq1 =>
  some (((a_0.1, ((0 : Int), (([] : Y4), ())).2).1, (rq1.1, ((a_0.1, ((0 : Int), (([] : Y4), ())).2).2).2)), (()))
def zz5 (a_0 : Y6) : Option (Y6 × Unit) := zz5_s a_0
def S_zz5 : Sig := { a := (.pair (.pair I (.pair (.sl I) .unit)) .unit), md := [0], mf := [], m := .unit, r := (.pair I (.pair (.sl I) .unit)), rf := (.p .i (.p (.o .i) .i)), f := fun x => zz5 x.1 }
def A_zz5 : Cfg := mkCfg tab [(9, S_zz4)] []
theorem run_zz5 (N : Nat) (x : (S_zz5).a.den) : runF (A_zz5) N Try.f96 S_zz5 x = zz5 x.1 := by kernel_rfl
theorem fn_zz5 : FnOk Try.prog 96 := ⟨_, Try.func96, by kernel_rfl, by kernel_rfl⟩
theorem good_zz5 : Gx.Good Try.prog 96 S_zz5 := good_of_run Try.func96 (of_decide_eq_true (by kernel_rfl)) fun x r h => ⟨A_zz5, big, mkCfg_ok tabOk, mkCfg_sigs (show SigsOk Try.prog [(9, S_zz4)] from ⟨⟨fn_zz4, good_zz4⟩, trivial⟩), (run_zz5 big x).trans h⟩

/-! zz6 -/
def zz6_b3 (rec : (List Y6) → (List Y6) → Int → Option ((List Y6) × Unit)) (k : (List Y6) → Option ((List Y6) × Unit)) (a0 : (List Y6)) (out3 : (List Y6)) (i4 : Int) : Option ((List Y6) × Unit) :=
  cond (decide (i4 < (a0.length : Int)))
  ((atI a0 i4).bind fun xq3 =>
  (zz5 xq3).bind fun rq4 =>
  (atI out3 i4).bind fun _ =>
  (out3[i4.toNat]?).bind fun xq5 =>
  rec a0 (out3.set i4.toNat rq4.1) (IntKind.i64.wrap (i4 + (1 : Int))))
  (k out3)
def zz6_a3 (out3 : (List Y6)) : Option ((List Y6) × Unit) :=
  some (out3, (()))
def zz6_s (L3 : (List Y6) → (List Y6) → Int → Option ((List Y6) × Unit)) (a_0 : (List Y6)) : Option ((List Y6) × Unit) :=
  (mkI ((0 : Int), (([] : Y4), ())) (a_0.length : Int)).bind fun xq1 => (mkI ((0 : Int), (([] : Y4), ())) (a_0.length : Int)).bind fun xq2 => cond (decide ((a_0.length : Int) ≤ (a_0.length : Int)))
  (L3 a_0 xq2 (0 : Int))
  none
def zz6_l3 (N : Nat) (k : (List Y6) → Option ((List Y6) × Unit)) : Nat → (List Y6) → (List Y6) → Int → Option ((List Y6) × Unit)
  | 0, _, _, _ => none
  | m + 1, a0, out3, i4 => zz6_b3 (zz6_l3 N k m) k a0 out3 i4
def zz6_F3 (N : Nat) (a0 : (List Y6)) (out3 : (List Y6)) (i4 : Int) : Option ((List Y6) × Unit) := zz6_l3 N (zz6_a3) N a0 out3 i4
def zz6 (N : Nat) (a_0 : (List Y6)) : Option ((List Y6) × Unit) := zz6_s (zz6_F3 N) a_0
def S_zz6 : Sig := { a := (.pair (.sl (.pair I (.pair (.sl I) .unit))) .unit), md := [0], mf := [], m := .unit, r := (.sl (.pair I (.pair (.sl I) .unit))), rf := (.o (.p .i (.p (.o .i) .i))), f := fun x => zz6 big x.1 }
def A_zz6 : Cfg := mkCfg tab [(96, S_zz5)] [(6, [.as (.sl (.pair I (.pair (.sl I) .unit))) .i, .drop, .drop, .as (.sl (.pair I (.pair (.sl I) .unit))) (.o (.p .i (.p (.o .i) .i))), .as I .i]), (13, [.drop, .drop, .drop, .as (.sl (.pair I (.pair (.sl I) .unit))) (.o (.p .i (.p (.o .i) .i)))])]
noncomputable def zz6_R3 (N n : Nat) (K : Ex → St → Option ((List Y6) × Unit)) (a0 : (List Y6)) (out3 : (List Y6)) (i4 : Int) : Option ((List Y6) × Unit) := iter ((A_zz6).shape 6) (run (A_zz6) N (codeAt Try.f63 [1, 1, 0, 1, 0, 0])) n ([.val (.sl (.pair I (.pair (.sl I) .unit))) .i a0, .u, .u, .val (.sl (.pair I (.pair (.sl I) .unit))) (.o (.p .i (.p (.o .i) .i))) out3, .val I .i i4] ++ List.replicate 18 .u) K
noncomputable abbrev zz6_z : Ex → St → Option ((List Y6) × Unit) := finish (A_zz6) S_zz6 Try.f63.results.toList
noncomputable abbrev zz6_X3 (kX : St → Option ((List Y6) × Unit)) : (List Y6) → Option ((List Y6) × Unit) := fun (out3 : (List Y6)) => kX ([.u, .u, .u, .val (.sl (.pair I (.pair (.sl I) .unit))) (.o (.p .i (.p (.o .i) .i))) out3] ++ List.replicate 19 .u)
noncomputable abbrev zz6_E3 (kX : St → Option ((List Y6) × Unit)) (kO : Nat → St → Option ((List Y6) × Unit)) : Ex → St → Option ((List Y6) × Unit) := exK zz6_z 0 ((A_zz6).shape 13) kX kO
theorem zz6_step3 (N : Nat) (m : Nat) (kX : St → Option ((List Y6) × Unit)) (kO : Nat → St → Option ((List Y6) × Unit)) (a0 : (List Y6)) (out3 : (List Y6)) (i4 : Int) : zz6_R3 N (m + 1) (zz6_E3 kX kO) a0 out3 i4 = zz6_b3 (zz6_R3 N m (zz6_E3 kX kO)) (zz6_X3 kX) a0 out3 i4 := by kernel_rfl
theorem zz6_iter3 (N : Nat) (kX : St → Option ((List Y6) × Unit)) (kO : Nat → St → Option ((List Y6) × Unit)) : ∀ (n : Nat) (a0 : (List Y6)) (out3 : (List Y6)) (i4 : Int), zz6_R3 N n (zz6_E3 kX kO) a0 out3 i4 = zz6_l3 N (zz6_X3 kX) n a0 out3 i4
  | 0, _, _, _ => rfl
  | m + 1, a0, out3, i4 => by
    have hrec : zz6_R3 N m (zz6_E3 kX kO) = (zz6_l3 N (zz6_X3 kX) m) := (funext fun a0 => (funext fun out3 => (funext fun i4 => zz6_iter3 N kX kO m a0 out3 i4)))
    refine (zz6_step3 N m kX kO a0 out3 i4).trans ?_
    rw [hrec]
    rfl
noncomputable abbrev zz6_K3 (N : Nat) : Ex → St → Option ((List Y6) × Unit) := (blockK 0 (seqK ((A_zz6).shape 13) (run (A_zz6) N (codeAt Try.f63 [1, 1, 1])) zz6_z))
noncomputable abbrev zz6_k3 (N : Nat) : St → Option ((List Y6) × Unit) := fun st' => run (A_zz6) N (codeAt Try.f63 [1, 1, 1]) st' zz6_z
theorem zz6_after3 (N : Nat) (out3 : (List Y6)) : zz6_X3 (zz6_k3 N) out3 = zz6_a3 out3 := by kernel_rfl
theorem zz6_in3 (N : Nat) (a0 : (List Y6)) (out3 : (List Y6)) (i4 : Int) : zz6_R3 N N (zz6_K3 N) a0 out3 i4 = zz6_F3 N a0 out3 i4 :=
  have h : zz6_X3 (zz6_k3 N) = (zz6_a3) := (funext fun out3 => zz6_after3 N out3)
  ((iter_ex (fun st => by kernel_rfl) (fun st => by kernel_rfl)).trans (zz6_iter3 N (zz6_k3 N) (fun j st => (zz6_K3 N) (.exit j) st) N a0 out3 i4)).trans (congrArg (fun k => zz6_l3 N k N a0 out3 i4) h)
theorem run0_zz6 (N : Nat) (x : (S_zz6).a.den) : runF (A_zz6) N Try.f63 S_zz6 x = (zz6_s (zz6_R3 N N (zz6_K3 N)) x.1) := by kernel_rfl
theorem run_zz6 (N : Nat) (x : (S_zz6).a.den) : runF (A_zz6) N Try.f63 S_zz6 x = zz6 N x.1 := by
  refine (run0_zz6 N x).trans ?_
  rw [(funext fun a0 => (funext fun out3 => (funext fun i4 => zz6_in3 N a0 out3 i4)))]
  rfl
theorem fn_zz6 : FnOk Try.prog 63 := ⟨_, Try.func63, by kernel_rfl, by kernel_rfl⟩
theorem good_zz6 : Gx.Good Try.prog 63 S_zz6 := good_of_run Try.func63 (of_decide_eq_true (by kernel_rfl)) fun x r h => ⟨A_zz6, big, mkCfg_ok tabOk, mkCfg_sigs (show SigsOk Try.prog [(96, S_zz5)] from ⟨⟨fn_zz5, good_zz5⟩, trivial⟩), (run_zz6 big x).trans h⟩

/-! zz7 -/
def zz7_s (a_0 : Y7) : Option (Y7 × Unit) :=
  (zz6 big a_0.2.1).bind fun rq1 =>
  some (((a_0.1, ((0 : Int), (([] : (List Y6)), ())).2).1, (rq1.1, ((a_0.1, ((0 : Int), (([] : (List Y6)), ())).2).2).2)), (()))
def zz7 (a_0 : Y7) : Option (Y7 × Unit) := zz7_s a_0
def S_zz7 : Sig := { a := (.pair (.pair I (.pair (.sl (.pair I (.pair (.sl I) .unit))) .unit)) .unit), md := [0], mf := [], m := .unit, r := (.pair I (.pair (.sl (.pair I (.pair (.sl I) .unit))) .unit)), rf := (.p .i (.p (.o (.p .i (.p (.o .i) .i))) .i)), f := fun x => zz7 x.1 }
def A_zz7 : Cfg := mkCfg tab [(63, S_zz6)] []
theorem run_zz7 (N : Nat) (x : (S_zz7).a.den) : runF (A_zz7) N Try.f29 S_zz7 x = zz7 x.1 := by kernel_rfl
theorem fn_zz7 : FnOk Try.prog 29 := ⟨_, Try.func29, by kernel_rfl, by kernel_rfl⟩
theorem good_zz7 : Gx.Good Try.prog 29 S_zz7 := good_of_run Try.func29 (of_decide_eq_true (by kernel_rfl)) fun x r h => ⟨A_zz7, big, mkCfg_ok tabOk, mkCfg_sigs (show SigsOk Try.prog [(63, S_zz6)] from ⟨⟨fn_zz6, good_zz6⟩, trivial⟩), (run_zz7 big x).trans h⟩

/-! zz8 -/
def zz8_s (x_0 : Int) (a_1 : Int) (b_2 : Int) : Option (Bool × Unit) :=
  cond (decide (a_1 ≤ x_0))
  (some (decide (x_0 ≤ b_2), (())))
  (some (false, (())))
def zz8 (x_0 : Int) (a_1 : Int) (b_2 : Int) : Option (Bool × Unit) := zz8_s x_0 a_1 b_2
def S_zz8 : Sig := { a := (.pair I (.pair I (.pair I .unit))), md := [0, 0, 0], mf := [], m := .unit, r := .bool, rf := .i, f := fun x => zz8 x.1 x.2.1 x.2.2.1 }
def A_zz8 : Cfg := mkCfg tab [] []
theorem run_zz8 (N : Nat) (x : (S_zz8).a.den) : runF (A_zz8) N Try.f77 S_zz8 x = zz8 x.1 x.2.1 x.2.2.1 := by kernel_rfl
theorem fn_zz8 : FnOk Try.prog 77 := ⟨_, Try.func77, by kernel_rfl, by kernel_rfl⟩
theorem good_zz8 : Gx.Good Try.prog 77 S_zz8 := good_of_run Try.func77 (of_decide_eq_true (by kernel_rfl)) fun x r h => ⟨A_zz8, big, mkCfg_ok tabOk, mkCfg_sigs (show SigsOk Try.prog [] from trivial), (run_zz8 big x).trans h⟩

/-! zz9 -/
def zz9_b2 (rec : Int → Int → Int → Option (Int × Unit)) (k : Int → Option (Int × Unit)) (n0 : Int) (k1 : Int) (out5 : Int) : Option (Int × Unit) :=
  cond (decide ((0 : Int) < k1))
  (rec n0 (IntKind.i64.wrap (k1 - (1 : Int))) (IntKind.i64.wrap (out5 * n0)))
  (k out5)
def zz9_a2 (out5 : Int) : Option (Int × Unit) :=
  some (out5, (()))
def zz9_s (L2 : Int → Int → Int → Option (Int × Unit)) (n_0 : Int) (k_1 : Int) : Option (Int × Unit) :=
  L2 n_0 k_1 (1 : Int)
def zz9_l2 (N : Nat) (k : Int → Option (Int × Unit)) : Nat → Int → Int → Int → Option (Int × Unit)
  | 0, _, _, _ => none
  | m + 1, n0, k1, out5 => zz9_b2 (zz9_l2 N k m) k n0 k1 out5
def zz9_F2 (N : Nat) (n0 : Int) (k1 : Int) (out5 : Int) : Option (Int × Unit) := zz9_l2 N (zz9_a2) N n0 k1 out5
def zz9 (N : Nat) (n_0 : Int) (k_1 : Int) : Option (Int × Unit) := zz9_s (zz9_F2 N) n_0 k_1
def S_zz9 : Sig := { a := (.pair I (.pair I .unit)), md := [0, 0], mf := [], m := .unit, r := I, rf := .i, f := fun x => zz9 big x.1 x.2.1 }
def A_zz9 : Cfg := mkCfg tab [] [(4, [.as I .i, .as I .i, .drop, .drop, .drop, .as I .i]), (11, [.drop, .drop, .drop, .drop, .drop, .as I .i])]
noncomputable def zz9_R2 (N n : Nat) (K : Ex → St → Option (Int × Unit)) (n0 : Int) (k1 : Int) (out5 : Int) : Option (Int × Unit) := iter ((A_zz9).shape 4) (run (A_zz9) N (codeAt Try.f115 [1, 1, 0, 0, 0])) n ([.val I .i n0, .val I .i k1, .u, .u, .u, .val I .i out5] ++ List.replicate 8 .u) K
noncomputable abbrev zz9_z : Ex → St → Option (Int × Unit) := finish (A_zz9) S_zz9 Try.f115.results.toList
noncomputable abbrev zz9_X2 (kX : St → Option (Int × Unit)) : Int → Option (Int × Unit) := fun (out5 : Int) => kX ([.u, .u, .u, .u, .u, .val I .i out5] ++ List.replicate 8 .u)
noncomputable abbrev zz9_E2 (kX : St → Option (Int × Unit)) (kO : Nat → St → Option (Int × Unit)) : Ex → St → Option (Int × Unit) := exK zz9_z 0 ((A_zz9).shape 11) kX kO
theorem zz9_step2 (N : Nat) (m : Nat) (kX : St → Option (Int × Unit)) (kO : Nat → St → Option (Int × Unit)) (n0 : Int) (k1 : Int) (out5 : Int) : zz9_R2 N (m + 1) (zz9_E2 kX kO) n0 k1 out5 = zz9_b2 (zz9_R2 N m (zz9_E2 kX kO)) (zz9_X2 kX) n0 k1 out5 := by kernel_rfl
theorem zz9_iter2 (N : Nat) (kX : St → Option (Int × Unit)) (kO : Nat → St → Option (Int × Unit)) : ∀ (n : Nat) (n0 : Int) (k1 : Int) (out5 : Int), zz9_R2 N n (zz9_E2 kX kO) n0 k1 out5 = zz9_l2 N (zz9_X2 kX) n n0 k1 out5
  | 0, _, _, _ => rfl
  | m + 1, n0, k1, out5 => by
    have hrec : zz9_R2 N m (zz9_E2 kX kO) = (zz9_l2 N (zz9_X2 kX) m) := (funext fun n0 => (funext fun k1 => (funext fun out5 => zz9_iter2 N kX kO m n0 k1 out5)))
    refine (zz9_step2 N m kX kO n0 k1 out5).trans ?_
    rw [hrec]
    rfl
noncomputable abbrev zz9_K2 (N : Nat) : Ex → St → Option (Int × Unit) := (blockK 0 (seqK ((A_zz9).shape 11) (run (A_zz9) N (codeAt Try.f115 [1, 1, 1])) zz9_z))
noncomputable abbrev zz9_k2 (N : Nat) : St → Option (Int × Unit) := fun st' => run (A_zz9) N (codeAt Try.f115 [1, 1, 1]) st' zz9_z
theorem zz9_after2 (N : Nat) (out5 : Int) : zz9_X2 (zz9_k2 N) out5 = zz9_a2 out5 := by kernel_rfl
theorem zz9_in2 (N : Nat) (n0 : Int) (k1 : Int) (out5 : Int) : zz9_R2 N N (zz9_K2 N) n0 k1 out5 = zz9_F2 N n0 k1 out5 :=
  have h : zz9_X2 (zz9_k2 N) = (zz9_a2) := (funext fun out5 => zz9_after2 N out5)
  ((iter_ex (fun st => by kernel_rfl) (fun st => by kernel_rfl)).trans (zz9_iter2 N (zz9_k2 N) (fun j st => (zz9_K2 N) (.exit j) st) N n0 k1 out5)).trans (congrArg (fun k => zz9_l2 N k N n0 k1 out5) h)
theorem run0_zz9 (N : Nat) (x : (S_zz9).a.den) : runF (A_zz9) N Try.f115 S_zz9 x = (zz9_s (zz9_R2 N N (zz9_K2 N)) x.1 x.2.1) := by kernel_rfl
theorem run_zz9 (N : Nat) (x : (S_zz9).a.den) : runF (A_zz9) N Try.f115 S_zz9 x = zz9 N x.1 x.2.1 := by
  refine (run0_zz9 N x).trans ?_
  rw [(funext fun n0 => (funext fun k1 => (funext fun out5 => zz9_in2 N n0 k1 out5)))]
  rfl
theorem fn_zz9 : FnOk Try.prog 115 := ⟨_, Try.func115, by kernel_rfl, by kernel_rfl⟩
theorem good_zz9 : Gx.Good Try.prog 115 S_zz9 := good_of_run Try.func115 (of_decide_eq_true (by kernel_rfl)) fun x r h => ⟨A_zz9, big, mkCfg_ok tabOk, mkCfg_sigs (show SigsOk Try.prog [] from trivial), (run_zz9 big x).trans h⟩

/-! zz10 -/
def zz10_b4 (rec : Int → Y6 → Int → Option (Bool × Unit)) (k : Option (Bool × Unit)) (n0 : Int) (op3 : Y6) (i5 : Int) : Option (Bool × Unit) :=
  cond (decide (i5 < (op3.2.1.length : Int)))
  ((atI op3.2.1 i5).bind fun xq3 =>
  (zz8 xq3 (0 : Int) (IntKind.i64.wrap (n0 - (1 : Int)))).bind fun rq4 =>
  cond (!rq4.1)
  (some (false, (())))
  (rec n0 op3 (IntKind.i64.wrap (i5 + (1 : Int)))))
  (k)
def zz10_a4 : Option (Bool × Unit) :=
  some (true, (()))
def zz10_s (L4 : Int → Y6 → Int → Option (Bool × Unit)) (n_0 : Int) (op_1 : Y6) : Option (Bool × Unit) :=
  (zz8 op_1.1 (0 : Int) (3 : Int)).bind fun rq1 =>
  cond (!rq1.1)
  (some (false, (())))
  ((zz9 big n_0 op_1.1).bind fun rq2 =>
  cond (decide ((op_1.2.1.length : Int) ≠ rq2.1))
  (some (false, (())))
  (L4 n_0 op_1 (0 : Int)))
def zz10_l4 (N : Nat) (k : Option (Bool × Unit)) : Nat → Int → Y6 → Int → Option (Bool × Unit)
  | 0, _, _, _ => none
  | m + 1, n0, op3, i5 => zz10_b4 (zz10_l4 N k m) k n0 op3 i5
def zz10_F4 (N : Nat) (n0 : Int) (op3 : Y6) (i5 : Int) : Option (Bool × Unit) := zz10_l4 N (zz10_a4) N n0 op3 i5
def zz10 (N : Nat) (n_0 : Int) (op_1 : Y6) : Option (Bool × Unit) := zz10_s (zz10_F4 N) n_0 op_1
def S_zz10 : Sig := { a := (.pair I (.pair (.pair I (.pair (.sl I) .unit)) .unit)), md := [0, 0], mf := [], m := .unit, r := .bool, rf := .i, f := fun x => zz10 big x.1 x.2.1 }
def A_zz10 : Cfg := mkCfg tab [(77, S_zz8), (115, S_zz9)] [(8, [.as I .i, .drop, .drop, .as (.ptr (.pair I (.pair (.sl I) .unit))) (.o .i), .drop, .as I .i]), (17, [])]
noncomputable def zz10_R4 (N n : Nat) (K : Ex → St → Option (Bool × Unit)) (n0 : Int) (op3 : Y6) (i5 : Int) : Option (Bool × Unit) := iter ((A_zz10).shape 8) (run (A_zz10) N (codeAt Try.f90 [1, 1, 0, 1, 0, 0])) n ([.val I .i n0, .u, .u, .val (.ptr (.pair I (.pair (.sl I) .unit))) (.o .i) op3, .u, .val I .i i5] ++ List.replicate 30 .u) K
noncomputable abbrev zz10_z : Ex → St → Option (Bool × Unit) := finish (A_zz10) S_zz10 Try.f90.results.toList
noncomputable abbrev zz10_X4 (kX : St → Option (Bool × Unit)) : Option (Bool × Unit) := kX ([] ++ List.replicate 36 .u)
noncomputable abbrev zz10_E4 (kX : St → Option (Bool × Unit)) (kO : Nat → St → Option (Bool × Unit)) : Ex → St → Option (Bool × Unit) := exK zz10_z 0 ((A_zz10).shape 17) kX kO
theorem zz10_step4 (N : Nat) (m : Nat) (kX : St → Option (Bool × Unit)) (kO : Nat → St → Option (Bool × Unit)) (n0 : Int) (op3 : Y6) (i5 : Int) : zz10_R4 N (m + 1) (zz10_E4 kX kO) n0 op3 i5 = zz10_b4 (zz10_R4 N m (zz10_E4 kX kO)) (zz10_X4 kX) n0 op3 i5 := by kernel_rfl
theorem zz10_iter4 (N : Nat) (kX : St → Option (Bool × Unit)) (kO : Nat → St → Option (Bool × Unit)) : ∀ (n : Nat) (n0 : Int) (op3 : Y6) (i5 : Int), zz10_R4 N n (zz10_E4 kX kO) n0 op3 i5 = zz10_l4 N (zz10_X4 kX) n n0 op3 i5
  | 0, _, _, _ => rfl
  | m + 1, n0, op3, i5 => by
    have hrec : zz10_R4 N m (zz10_E4 kX kO) = (zz10_l4 N (zz10_X4 kX) m) := (funext fun n0 => (funext fun op3 => (funext fun i5 => zz10_iter4 N kX kO m n0 op3 i5)))
    refine (zz10_step4 N m kX kO n0 op3 i5).trans ?_
    rw [hrec]
    rfl
noncomputable abbrev zz10_K4 (N : Nat) : Ex → St → Option (Bool × Unit) := (blockK 0 (seqK ((A_zz10).shape 17) (run (A_zz10) N (codeAt Try.f90 [1, 1, 1])) zz10_z))
noncomputable abbrev zz10_k4 (N : Nat) : St → Option (Bool × Unit) := fun st' => run (A_zz10) N (codeAt Try.f90 [1, 1, 1]) st' zz10_z
theorem zz10_after4 (N : Nat) : zz10_X4 (zz10_k4 N) = zz10_a4 := by kernel_rfl
theorem zz10_in4 (N : Nat) (n0 : Int) (op3 : Y6) (i5 : Int) : zz10_R4 N N (zz10_K4 N) n0 op3 i5 = zz10_F4 N n0 op3 i5 :=
  have h : zz10_X4 (zz10_k4 N) = (zz10_a4) := zz10_after4 N
  ((iter_ex (fun st => by kernel_rfl) (fun st => by kernel_rfl)).trans (zz10_iter4 N (zz10_k4 N) (fun j st => (zz10_K4 N) (.exit j) st) N n0 op3 i5)).trans (congrArg (fun k => zz10_l4 N k N n0 op3 i5) h)
theorem run0_zz10 (N : Nat) (x : (S_zz10).a.den) : runF (A_zz10) N Try.f90 S_zz10 x = (zz10_s (zz10_R4 N N (zz10_K4 N)) x.1 x.2.1) := by kernel_rfl
theorem run_zz10 (N : Nat) (x : (S_zz10).a.den) : runF (A_zz10) N Try.f90 S_zz10 x = zz10 N x.1 x.2.1 := by
  refine (run0_zz10 N x).trans ?_
  rw [(funext fun n0 => (funext fun op3 => (funext fun i5 => zz10_in4 N n0 op3 i5)))]
  rfl
theorem fn_zz10 : FnOk Try.prog 90 := ⟨_, Try.func90, by kernel_rfl, by kernel_rfl⟩
theorem good_zz10 : Gx.Good Try.prog 90 S_zz10 := good_of_run Try.func90 (of_decide_eq_true (by kernel_rfl)) fun x r h => ⟨A_zz10, big, mkCfg_ok tabOk, mkCfg_sigs (show SigsOk Try.prog [(77, S_zz8), (115, S_zz9)] from ⟨⟨fn_zz8, good_zz8⟩, ⟨fn_zz9, good_zz9⟩, trivial⟩), (run_zz10 big x).trans h⟩

/-! zz11 -/
def zz11_b4 (rec : Y7 → Int → Option (Bool × Unit)) (k : Option (Bool × Unit)) (a1 : Y7) (i3 : Int) : Option (Bool × Unit) :=
  cond (decide (i3 < (a1.2.1.length : Int)))
  ((atI a1.2.1 i3).bind fun xq2 =>
  (zz10 big a1.1 xq2).bind fun rq3 =>
  cond (!rq3.1)
  (some (false, (())))
  (rec a1 (IntKind.i64.wrap (i3 + (1 : Int)))))
  (k)
def zz11_a4 : Option (Bool × Unit) :=
  some (true, (()))
def zz11_s (L4 : Y7 → Int → Option (Bool × Unit)) (a_0 : Y7) : Option (Bool × Unit) :=
  (zz8 a_0.1 (1 : Int) (8 : Int)).bind fun rq1 =>
  cond (!rq1.1)
  (some (false, (())))
  (cond (decide ((4 : Int) < (a_0.2.1.length : Int)))
  (some (false, (())))
  (L4 a_0 (0 : Int)))
def zz11_l4 (N : Nat) (k : Option (Bool × Unit)) : Nat → Y7 → Int → Option (Bool × Unit)
  | 0, _, _ => none
  | m + 1, a1, i3 => zz11_b4 (zz11_l4 N k m) k a1 i3
def zz11_F4 (N : Nat) (a1 : Y7) (i3 : Int) : Option (Bool × Unit) := zz11_l4 N (zz11_a4) N a1 i3
def zz11 (N : Nat) (a_0 : Y7) : Option (Bool × Unit) := zz11_s (zz11_F4 N) a_0
def S_zz11 : Sig := { a := (.pair (.pair I (.pair (.sl (.pair I (.pair (.sl I) .unit))) .unit)) .unit), md := [0], mf := [], m := .unit, r := .bool, rf := .i, f := fun x => zz11 big x.1 }
def A_zz11 : Cfg := mkCfg tab [(77, S_zz8), (90, S_zz10)] [(8, [.drop, .as (.ptr (.pair I (.pair (.sl (.pair I (.pair (.sl I) .unit))) .unit))) (.o .i), .drop, .as I .i]), (17, [])]
noncomputable def zz11_R4 (N n : Nat) (K : Ex → St → Option (Bool × Unit)) (a1 : Y7) (i3 : Int) : Option (Bool × Unit) := iter ((A_zz11).shape 8) (run (A_zz11) N (codeAt Try.f57 [1, 1, 0, 1, 0, 0])) n ([.u, .val (.ptr (.pair I (.pair (.sl (.pair I (.pair (.sl I) .unit))) .unit))) (.o .i) a1, .u, .val I .i i3] ++ List.replicate 26 .u) K
noncomputable abbrev zz11_z : Ex → St → Option (Bool × Unit) := finish (A_zz11) S_zz11 Try.f57.results.toList
noncomputable abbrev zz11_X4 (kX : St → Option (Bool × Unit)) : Option (Bool × Unit) := kX ([] ++ List.replicate 30 .u)
noncomputable abbrev zz11_E4 (kX : St → Option (Bool × Unit)) (kO : Nat → St → Option (Bool × Unit)) : Ex → St → Option (Bool × Unit) := exK zz11_z 0 ((A_zz11).shape 17) kX kO
theorem zz11_step4 (N : Nat) (m : Nat) (kX : St → Option (Bool × Unit)) (kO : Nat → St → Option (Bool × Unit)) (a1 : Y7) (i3 : Int) : zz11_R4 N (m + 1) (zz11_E4 kX kO) a1 i3 = zz11_b4 (zz11_R4 N m (zz11_E4 kX kO)) (zz11_X4 kX) a1 i3 := by kernel_rfl
theorem zz11_iter4 (N : Nat) (kX : St → Option (Bool × Unit)) (kO : Nat → St → Option (Bool × Unit)) : ∀ (n : Nat) (a1 : Y7) (i3 : Int), zz11_R4 N n (zz11_E4 kX kO) a1 i3 = zz11_l4 N (zz11_X4 kX) n a1 i3
  | 0, _, _ => rfl
  | m + 1, a1, i3 => by
    have hrec : zz11_R4 N m (zz11_E4 kX kO) = (zz11_l4 N (zz11_X4 kX) m) := (funext fun a1 => (funext fun i3 => zz11_iter4 N kX kO m a1 i3))
    refine (zz11_step4 N m kX kO a1 i3).trans ?_
    rw [hrec]
    rfl
noncomputable abbrev zz11_K4 (N : Nat) : Ex → St → Option (Bool × Unit) := (blockK 0 (seqK ((A_zz11).shape 17) (run (A_zz11) N (codeAt Try.f57 [1, 1, 1])) zz11_z))
noncomputable abbrev zz11_k4 (N : Nat) : St → Option (Bool × Unit) := fun st' => run (A_zz11) N (codeAt Try.f57 [1, 1, 1]) st' zz11_z
theorem zz11_after4 (N : Nat) : zz11_X4 (zz11_k4 N) = zz11_a4 := by kernel_rfl
theorem zz11_in4 (N : Nat) (a1 : Y7) (i3 : Int) : zz11_R4 N N (zz11_K4 N) a1 i3 = zz11_F4 N a1 i3 :=
  have h : zz11_X4 (zz11_k4 N) = (zz11_a4) := zz11_after4 N
  ((iter_ex (fun st => by kernel_rfl) (fun st => by kernel_rfl)).trans (zz11_iter4 N (zz11_k4 N) (fun j st => (zz11_K4 N) (.exit j) st) N a1 i3)).trans (congrArg (fun k => zz11_l4 N k N a1 i3) h)
theorem run0_zz11 (N : Nat) (x : (S_zz11).a.den) : runF (A_zz11) N Try.f57 S_zz11 x = (zz11_s (zz11_R4 N N (zz11_K4 N)) x.1) := by kernel_rfl
theorem run_zz11 (N : Nat) (x : (S_zz11).a.den) : runF (A_zz11) N Try.f57 S_zz11 x = zz11 N x.1 := by
  refine (run0_zz11 N x).trans ?_
  rw [(funext fun a1 => (funext fun i3 => zz11_in4 N a1 i3))]
  rfl
theorem fn_zz11 : FnOk Try.prog 57 := ⟨_, Try.func57, by kernel_rfl, by kernel_rfl⟩
theorem good_zz11 : Gx.Good Try.prog 57 S_zz11 := good_of_run Try.func57 (of_decide_eq_true (by kernel_rfl)) fun x r h => ⟨A_zz11, big, mkCfg_ok tabOk, mkCfg_sigs (show SigsOk Try.prog [(77, S_zz8), (90, S_zz10)] from ⟨⟨fn_zz8, good_zz8⟩, ⟨fn_zz10, good_zz10⟩, trivial⟩), (run_zz11 big x).trans h⟩

/-! zz12 -/
def zz12_b3 (rec : Y7 → Y4 → Int → Option (Y4 × Unit)) (k : Y4 → Option (Y4 × Unit)) (a1 : Y7) (out3 : Y4) (i4 : Int) : Option (Y4 × Unit) :=
  cond (decide (i4 < (a1.2.1.length : Int)))
  ((atI a1.2.1 i4).bind fun xq1 =>
  (appI out3 [xq1.1]).bind fun xq2 =>
  rec a1 xq2 (IntKind.i64.wrap (i4 + (1 : Int))))
  (k out3)
def zz12_a3 (out3 : Y4) : Option (Y4 × Unit) :=
  some (out3, (()))
def zz12_s (L3 : Y7 → Y4 → Int → Option (Y4 × Unit)) (a_0 : Y7) : Option (Y4 × Unit) :=
  L3 a_0 [] (0 : Int)
def zz12_l3 (N : Nat) (k : Y4 → Option (Y4 × Unit)) : Nat → Y7 → Y4 → Int → Option (Y4 × Unit)
  | 0, _, _, _ => none
  | m + 1, a1, out3, i4 => zz12_b3 (zz12_l3 N k m) k a1 out3 i4
def zz12_F3 (N : Nat) (a1 : Y7) (out3 : Y4) (i4 : Int) : Option (Y4 × Unit) := zz12_l3 N (zz12_a3) N a1 out3 i4
def zz12 (N : Nat) (a_0 : Y7) : Option (Y4 × Unit) := zz12_s (zz12_F3 N) a_0
def S_zz12 : Sig := { a := (.pair (.pair I (.pair (.sl (.pair I (.pair (.sl I) .unit))) .unit)) .unit), md := [0], mf := [], m := .unit, r := (.sl I), rf := (.o .i), f := fun x => zz12 big x.1 }
def A_zz12 : Cfg := mkCfg tab [] [(6, [.drop, .as (.ptr (.pair I (.pair (.sl (.pair I (.pair (.sl I) .unit))) .unit))) (.o .i), .drop, .as (.sl I) (.o .i), .as I .i]), (13, [.drop, .drop, .drop, .as (.sl I) (.o .i)])]
noncomputable def zz12_R3 (N n : Nat) (K : Ex → St → Option (Y4 × Unit)) (a1 : Y7) (out3 : Y4) (i4 : Int) : Option (Y4 × Unit) := iter ((A_zz12).shape 6) (run (A_zz12) N (codeAt Try.f59 [1, 1, 0, 1, 0, 0])) n ([.u, .val (.ptr (.pair I (.pair (.sl (.pair I (.pair (.sl I) .unit))) .unit))) (.o .i) a1, .u, .val (.sl I) (.o .i) out3, .val I .i i4] ++ List.replicate 18 .u) K
noncomputable abbrev zz12_z : Ex → St → Option (Y4 × Unit) := finish (A_zz12) S_zz12 Try.f59.results.toList
noncomputable abbrev zz12_X3 (kX : St → Option (Y4 × Unit)) : Y4 → Option (Y4 × Unit) := fun (out3 : Y4) => kX ([.u, .u, .u, .val (.sl I) (.o .i) out3] ++ List.replicate 19 .u)
noncomputable abbrev zz12_E3 (kX : St → Option (Y4 × Unit)) (kO : Nat → St → Option (Y4 × Unit)) : Ex → St → Option (Y4 × Unit) := exK zz12_z 0 ((A_zz12).shape 13) kX kO
theorem zz12_step3 (N : Nat) (m : Nat) (kX : St → Option (Y4 × Unit)) (kO : Nat → St → Option (Y4 × Unit)) (a1 : Y7) (out3 : Y4) (i4 : Int) : zz12_R3 N (m + 1) (zz12_E3 kX kO) a1 out3 i4 = zz12_b3 (zz12_R3 N m (zz12_E3 kX kO)) (zz12_X3 kX) a1 out3 i4 := by kernel_rfl
theorem zz12_iter3 (N : Nat) (kX : St → Option (Y4 × Unit)) (kO : Nat → St → Option (Y4 × Unit)) : ∀ (n : Nat) (a1 : Y7) (out3 : Y4) (i4 : Int), zz12_R3 N n (zz12_E3 kX kO) a1 out3 i4 = zz12_l3 N (zz12_X3 kX) n a1 out3 i4
  | 0, _, _, _ => rfl
  | m + 1, a1, out3, i4 => by
    have hrec : zz12_R3 N m (zz12_E3 kX kO) = (zz12_l3 N (zz12_X3 kX) m) := (funext fun a1 => (funext fun out3 => (funext fun i4 => zz12_iter3 N kX kO m a1 out3 i4)))
    refine (zz12_step3 N m kX kO a1 out3 i4).trans ?_
    rw [hrec]
    rfl
noncomputable abbrev zz12_K3 (N : Nat) : Ex → St → Option (Y4 × Unit) := (blockK 0 (seqK ((A_zz12).shape 13) (run (A_zz12) N (codeAt Try.f59 [1, 1, 1])) zz12_z))
noncomputable abbrev zz12_k3 (N : Nat) : St → Option (Y4 × Unit) := fun st' => run (A_zz12) N (codeAt Try.f59 [1, 1, 1]) st' zz12_z
theorem zz12_after3 (N : Nat) (out3 : Y4) : zz12_X3 (zz12_k3 N) out3 = zz12_a3 out3 := by kernel_rfl
theorem zz12_in3 (N : Nat) (a1 : Y7) (out3 : Y4) (i4 : Int) : zz12_R3 N N (zz12_K3 N) a1 out3 i4 = zz12_F3 N a1 out3 i4 :=
  have h : zz12_X3 (zz12_k3 N) = (zz12_a3) := (funext fun out3 => zz12_after3 N out3)
  ((iter_ex (fun st => by kernel_rfl) (fun st => by kernel_rfl)).trans (zz12_iter3 N (zz12_k3 N) (fun j st => (zz12_K3 N) (.exit j) st) N a1 out3 i4)).trans (congrArg (fun k => zz12_l3 N k N a1 out3 i4) h)
theorem run0_zz12 (N : Nat) (x : (S_zz12).a.den) : runF (A_zz12) N Try.f59 S_zz12 x = (zz12_s (zz12_R3 N N (zz12_K3 N)) x.1) := by kernel_rfl
theorem run_zz12 (N : Nat) (x : (S_zz12).a.den) : runF (A_zz12) N Try.f59 S_zz12 x = zz12 N x.1 := by
  refine (run0_zz12 N x).trans ?_
  rw [(funext fun a1 => (funext fun out3 => (funext fun i4 => zz12_in3 N a1 out3 i4)))]
  rfl
theorem fn_zz12 : FnOk Try.prog 59 := ⟨_, Try.func59, by kernel_rfl, by kernel_rfl⟩
theorem good_zz12 : Gx.Good Try.prog 59 S_zz12 := good_of_run Try.func59 (of_decide_eq_true (by kernel_rfl)) fun x r h => ⟨A_zz12, big, mkCfg_ok tabOk, mkCfg_sigs (show SigsOk Try.prog [] from trivial), (run_zz12 big x).trans h⟩

/-! zz13 -/
def zz13_b4 (rec : Y4 → Y4 → Int → Option (Bool × Unit)) (k : Option (Bool × Unit)) (a0 : Y4) (b1 : Y4) (i5 : Int) : Option (Bool × Unit) :=
  cond (decide (i5 < (a0.length : Int)))
  ((atI a0 i5).bind fun xq1 =>
  (atI b1 i5).bind fun xq2 =>
  cond (decide (xq1 ≠ xq2))
  (some (false, (())))
  (rec a0 b1 (IntKind.i64.wrap (i5 + (1 : Int)))))
  (k)
def zz13_a4 : Option (Bool × Unit) :=
  some (true, (()))
def zz13_s (L4 : Y4 → Y4 → Int → Option (Bool × Unit)) (a_0 : Y4) (b_1 : Y4) : Option (Bool × Unit) :=
  cond (decide ((a_0.length : Int) ≠ (b_1.length : Int)))
  (some (false, (())))
  (L4 a_0 b_1 (0 : Int))
def zz13_l4 (N : Nat) (k : Option (Bool × Unit)) : Nat → Y4 → Y4 → Int → Option (Bool × Unit)
  | 0, _, _, _ => none
  | m + 1, a0, b1, i5 => zz13_b4 (zz13_l4 N k m) k a0 b1 i5
def zz13_F4 (N : Nat) (a0 : Y4) (b1 : Y4) (i5 : Int) : Option (Bool × Unit) := zz13_l4 N (zz13_a4) N a0 b1 i5
def zz13 (N : Nat) (a_0 : Y4) (b_1 : Y4) : Option (Bool × Unit) := zz13_s (zz13_F4 N) a_0 b_1
def S_zz13 : Sig := { a := (.pair (.sl I) (.pair (.sl I) .unit)), md := [0, 0], mf := [], m := .unit, r := .bool, rf := .i, f := fun x => zz13 big x.1 x.2.1 }
def A_zz13 : Cfg := mkCfg tab [] [(8, [.as (.sl I) .i, .as (.sl I) .i, .drop, .drop, .drop, .as I .i]), (17, [])]
noncomputable def zz13_R4 (N n : Nat) (K : Ex → St → Option (Bool × Unit)) (a0 : Y4) (b1 : Y4) (i5 : Int) : Option (Bool × Unit) := iter ((A_zz13).shape 8) (run (A_zz13) N (codeAt Try.f58 [1, 1, 0, 1, 0, 0])) n ([.val (.sl I) .i a0, .val (.sl I) .i b1, .u, .u, .u, .val I .i i5] ++ List.replicate 20 .u) K
noncomputable abbrev zz13_z : Ex → St → Option (Bool × Unit) := finish (A_zz13) S_zz13 Try.f58.results.toList
noncomputable abbrev zz13_X4 (kX : St → Option (Bool × Unit)) : Option (Bool × Unit) := kX ([] ++ List.replicate 26 .u)
noncomputable abbrev zz13_E4 (kX : St → Option (Bool × Unit)) (kO : Nat → St → Option (Bool × Unit)) : Ex → St → Option (Bool × Unit) := exK zz13_z 0 ((A_zz13).shape 17) kX kO
theorem zz13_step4 (N : Nat) (m : Nat) (kX : St → Option (Bool × Unit)) (kO : Nat → St → Option (Bool × Unit)) (a0 : Y4) (b1 : Y4) (i5 : Int) : zz13_R4 N (m + 1) (zz13_E4 kX kO) a0 b1 i5 = zz13_b4 (zz13_R4 N m (zz13_E4 kX kO)) (zz13_X4 kX) a0 b1 i5 := by kernel_rfl
theorem zz13_iter4 (N : Nat) (kX : St → Option (Bool × Unit)) (kO : Nat → St → Option (Bool × Unit)) : ∀ (n : Nat) (a0 : Y4) (b1 : Y4) (i5 : Int), zz13_R4 N n (zz13_E4 kX kO) a0 b1 i5 = zz13_l4 N (zz13_X4 kX) n a0 b1 i5
  | 0, _, _, _ => rfl
  | m + 1, a0, b1, i5 => by
    have hrec : zz13_R4 N m (zz13_E4 kX kO) = (zz13_l4 N (zz13_X4 kX) m) := (funext fun a0 => (funext fun b1 => (funext fun i5 => zz13_iter4 N kX kO m a0 b1 i5)))
    refine (zz13_step4 N m kX kO a0 b1 i5).trans ?_
    rw [hrec]
    rfl
noncomputable abbrev zz13_K4 (N : Nat) : Ex → St → Option (Bool × Unit) := (blockK 0 (seqK ((A_zz13).shape 17) (run (A_zz13) N (codeAt Try.f58 [1, 1, 1])) zz13_z))
noncomputable abbrev zz13_k4 (N : Nat) : St → Option (Bool × Unit) := fun st' => run (A_zz13) N (codeAt Try.f58 [1, 1, 1]) st' zz13_z
theorem zz13_after4 (N : Nat) : zz13_X4 (zz13_k4 N) = zz13_a4 := by kernel_rfl
theorem zz13_in4 (N : Nat) (a0 : Y4) (b1 : Y4) (i5 : Int) : zz13_R4 N N (zz13_K4 N) a0 b1 i5 = zz13_F4 N a0 b1 i5 :=
  have h : zz13_X4 (zz13_k4 N) = (zz13_a4) := zz13_after4 N
  ((iter_ex (fun st => by kernel_rfl) (fun st => by kernel_rfl)).trans (zz13_iter4 N (zz13_k4 N) (fun j st => (zz13_K4 N) (.exit j) st) N a0 b1 i5)).trans (congrArg (fun k => zz13_l4 N k N a0 b1 i5) h)
theorem run0_zz13 (N : Nat) (x : (S_zz13).a.den) : runF (A_zz13) N Try.f58 S_zz13 x = (zz13_s (zz13_R4 N N (zz13_K4 N)) x.1 x.2.1) := by kernel_rfl
theorem run_zz13 (N : Nat) (x : (S_zz13).a.den) : runF (A_zz13) N Try.f58 S_zz13 x = zz13 N x.1 x.2.1 := by
  refine (run0_zz13 N x).trans ?_
  rw [(funext fun a0 => (funext fun b1 => (funext fun i5 => zz13_in4 N a0 b1 i5)))]
  rfl
theorem fn_zz13 : FnOk Try.prog 58 := ⟨_, Try.func58, by kernel_rfl, by kernel_rfl⟩
theorem good_zz13 : Gx.Good Try.prog 58 S_zz13 := good_of_run Try.func58 (of_decide_eq_true (by kernel_rfl)) fun x r h => ⟨A_zz13, big, mkCfg_ok tabOk, mkCfg_sigs (show SigsOk Try.prog [] from trivial), (run_zz13 big x).trans h⟩

/-! zz14 -/
def zz14_b3 (rec : Int → Y4 → Y7 → Int → Int → Option (Int × Unit)) (k : Int → Y7 → Int → Option (Int × Unit)) (op1 : Int) (args2 : Y4) (a3 : Y7) (at7 : Int) (i8 : Int) : Option (Int × Unit) :=
  cond (decide (i8 < (args2.length : Int)))
  ((atI args2 i8).bind fun xq1 =>
  rec op1 args2 a3 (IntKind.i64.wrap ((IntKind.i64.wrap (at7 * a3.1)) + xq1)) (IntKind.i64.wrap (i8 + (1 : Int))))
  (k op1 a3 at7)
def zz14_a3 (op1 : Int) (a3 : Y7) (at7 : Int) : Option (Int × Unit) :=
  (atI a3.2.1 op1).bind fun xq2 =>
  (atI xq2.2.1 at7).bind fun xq3 =>
  some (xq3, (()))
def zz14_s (L3 : Int → Y4 → Y7 → Int → Int → Option (Int × Unit)) (a_0 : Y7) (op_1 : Int) (args_2 : Y4) : Option (Int × Unit) :=
  L3 op_1 args_2 a_0 (0 : Int) (0 : Int)
def zz14_l3 (N : Nat) (k : Int → Y7 → Int → Option (Int × Unit)) : Nat → Int → Y4 → Y7 → Int → Int → Option (Int × Unit)
  | 0, _, _, _, _, _ => none
  | m + 1, op1, args2, a3, at7, i8 => zz14_b3 (zz14_l3 N k m) k op1 args2 a3 at7 i8
def zz14_F3 (N : Nat) (op1 : Int) (args2 : Y4) (a3 : Y7) (at7 : Int) (i8 : Int) : Option (Int × Unit) := zz14_l3 N (zz14_a3) N op1 args2 a3 at7 i8
def zz14 (N : Nat) (a_0 : Y7) (op_1 : Int) (args_2 : Y4) : Option (Int × Unit) := zz14_s (zz14_F3 N) a_0 op_1 args_2
def S_zz14 : Sig := { a := (.pair (.pair I (.pair (.sl (.pair I (.pair (.sl I) .unit))) .unit)) (.pair I (.pair (.sl I) .unit))), md := [0, 0, 0], mf := [], m := .unit, r := I, rf := .i, f := fun x => zz14 big x.1 x.2.1 x.2.2.1 }
def A_zz14 : Cfg := mkCfg tab [] [(6, [.drop, .as I .i, .as (.sl I) .i, .as (.ptr (.pair I (.pair (.sl (.pair I (.pair (.sl I) .unit))) .unit))) (.o .i), .drop, .drop, .drop, .as I .i, .as I .i]), (13, [.drop, .as I .i, .drop, .as (.ptr (.pair I (.pair (.sl (.pair I (.pair (.sl I) .unit))) .unit))) (.o .i), .drop, .drop, .drop, .as I .i])]
noncomputable def zz14_R3 (N n : Nat) (K : Ex → St → Option (Int × Unit)) (op1 : Int) (args2 : Y4) (a3 : Y7) (at7 : Int) (i8 : Int) : Option (Int × Unit) := iter ((A_zz14).shape 6) (run (A_zz14) N (codeAt Try.f60 [1, 1, 0, 1, 0, 0])) n ([.u, .val I .i op1, .val (.sl I) .i args2, .val (.ptr (.pair I (.pair (.sl (.pair I (.pair (.sl I) .unit))) .unit))) (.o .i) a3, .u, .u, .u, .val I .i at7, .val I .i i8] ++ List.replicate 24 .u) K
noncomputable abbrev zz14_z : Ex → St → Option (Int × Unit) := finish (A_zz14) S_zz14 Try.f60.results.toList
noncomputable abbrev zz14_X3 (kX : St → Option (Int × Unit)) : Int → Y7 → Int → Option (Int × Unit) := fun (op1 : Int) (a3 : Y7) (at7 : Int) => kX ([.u, .val I .i op1, .u, .val (.ptr (.pair I (.pair (.sl (.pair I (.pair (.sl I) .unit))) .unit))) (.o .i) a3, .u, .u, .u, .val I .i at7] ++ List.replicate 25 .u)
noncomputable abbrev zz14_E3 (kX : St → Option (Int × Unit)) (kO : Nat → St → Option (Int × Unit)) : Ex → St → Option (Int × Unit) := exK zz14_z 0 ((A_zz14).shape 13) kX kO
theorem zz14_step3 (N : Nat) (m : Nat) (kX : St → Option (Int × Unit)) (kO : Nat → St → Option (Int × Unit)) (op1 : Int) (args2 : Y4) (a3 : Y7) (at7 : Int) (i8 : Int) : zz14_R3 N (m + 1) (zz14_E3 kX kO) op1 args2 a3 at7 i8 = zz14_b3 (zz14_R3 N m (zz14_E3 kX kO)) (zz14_X3 kX) op1 args2 a3 at7 i8 := by kernel_rfl
theorem zz14_iter3 (N : Nat) (kX : St → Option (Int × Unit)) (kO : Nat → St → Option (Int × Unit)) : ∀ (n : Nat) (op1 : Int) (args2 : Y4) (a3 : Y7) (at7 : Int) (i8 : Int), zz14_R3 N n (zz14_E3 kX kO) op1 args2 a3 at7 i8 = zz14_l3 N (zz14_X3 kX) n op1 args2 a3 at7 i8
  | 0, _, _, _, _, _ => rfl
  | m + 1, op1, args2, a3, at7, i8 => by
    have hrec : zz14_R3 N m (zz14_E3 kX kO) = (zz14_l3 N (zz14_X3 kX) m) := (funext fun op1 => (funext fun args2 => (funext fun a3 => (funext fun at7 => (funext fun i8 => zz14_iter3 N kX kO m op1 args2 a3 at7 i8)))))
    refine (zz14_step3 N m kX kO op1 args2 a3 at7 i8).trans ?_
    rw [hrec]
    rfl
noncomputable abbrev zz14_K3 (N : Nat) : Ex → St → Option (Int × Unit) := (blockK 0 (seqK ((A_zz14).shape 13) (run (A_zz14) N (codeAt Try.f60 [1, 1, 1])) zz14_z))
noncomputable abbrev zz14_k3 (N : Nat) : St → Option (Int × Unit) := fun st' => run (A_zz14) N (codeAt Try.f60 [1, 1, 1]) st' zz14_z
theorem zz14_after3 (N : Nat) (op1 : Int) (a3 : Y7) (at7 : Int) : zz14_X3 (zz14_k3 N) op1 a3 at7 = zz14_a3 op1 a3 at7 := by kernel_rfl
theorem zz14_in3 (N : Nat) (op1 : Int) (args2 : Y4) (a3 : Y7) (at7 : Int) (i8 : Int) : zz14_R3 N N (zz14_K3 N) op1 args2 a3 at7 i8 = zz14_F3 N op1 args2 a3 at7 i8 :=
  have h : zz14_X3 (zz14_k3 N) = (zz14_a3) := (funext fun op1 => (funext fun a3 => (funext fun at7 => zz14_after3 N op1 a3 at7)))
  ((iter_ex (fun st => by kernel_rfl) (fun st => by kernel_rfl)).trans (zz14_iter3 N (zz14_k3 N) (fun j st => (zz14_K3 N) (.exit j) st) N op1 args2 a3 at7 i8)).trans (congrArg (fun k => zz14_l3 N k N op1 args2 a3 at7 i8) h)
theorem run0_zz14 (N : Nat) (x : (S_zz14).a.den) : runF (A_zz14) N Try.f60 S_zz14 x = (zz14_s (zz14_R3 N N (zz14_K3 N)) x.1 x.2.1 x.2.2.1) := by kernel_rfl
theorem run_zz14 (N : Nat) (x : (S_zz14).a.den) : runF (A_zz14) N Try.f60 S_zz14 x = zz14 N x.1 x.2.1 x.2.2.1 := by
  refine (run0_zz14 N x).trans ?_
  rw [(funext fun op1 => (funext fun args2 => (funext fun a3 => (funext fun at7 => (funext fun i8 => zz14_in3 N op1 args2 a3 at7 i8)))))]
  rfl
theorem fn_zz14 : FnOk Try.prog 60 := ⟨_, Try.func60, by kernel_rfl, by kernel_rfl⟩
theorem good_zz14 : Gx.Good Try.prog 60 S_zz14 := good_of_run Try.func60 (of_decide_eq_true (by kernel_rfl)) fun x r h => ⟨A_zz14, big, mkCfg_ok tabOk, mkCfg_sigs (show SigsOk Try.prog [] from trivial), (run_zz14 big x).trans h⟩

/-! zz15 -/
def zz15_b2 (rec : Y4 → Int → Int → Int → Option (Bool × Unit)) (k : Option (Bool × Unit)) (l0 : Y4) (lo1 : Int) (hi2 : Int) (i7 : Int) : Option (Bool × Unit) :=
  cond (decide (i7 < (l0.length : Int)))
  ((atI l0 i7).bind fun xq1 =>
  (zz8 xq1 lo1 hi2).bind fun rq2 =>
  cond (!rq2.1)
  (some (false, (())))
  (cond (decide ((0 : Int) < i7))
  ((atI l0 (IntKind.i64.wrap (i7 - (1 : Int)))).bind fun xq3 =>
  (atI l0 i7).bind fun xq4 =>
  cond (decide (xq4 ≤ xq3))
  (some (false, (())))
  (rec l0 lo1 hi2 (IntKind.i64.wrap (i7 + (1 : Int)))))
  (rec l0 lo1 hi2 (IntKind.i64.wrap (i7 + (1 : Int))))))
  (k)
def zz15_a2 : Option (Bool × Unit) :=
  some (true, (()))
def zz15_s (L2 : Y4 → Int → Int → Int → Option (Bool × Unit)) (l_0 : Y4) (lo_1 : Int) (hi_2 : Int) : Option (Bool × Unit) :=
  L2 l_0 lo_1 hi_2 (0 : Int)
def zz15_l2 (N : Nat) (k : Option (Bool × Unit)) : Nat → Y4 → Int → Int → Int → Option (Bool × Unit)
  | 0, _, _, _, _ => none
  | m + 1, l0, lo1, hi2, i7 => zz15_b2 (zz15_l2 N k m) k l0 lo1 hi2 i7
def zz15_F2 (N : Nat) (l0 : Y4) (lo1 : Int) (hi2 : Int) (i7 : Int) : Option (Bool × Unit) := zz15_l2 N (zz15_a2) N l0 lo1 hi2 i7
def zz15 (N : Nat) (l_0 : Y4) (lo_1 : Int) (hi_2 : Int) : Option (Bool × Unit) := zz15_s (zz15_F2 N) l_0 lo_1 hi_2
def S_zz15 : Sig := { a := (.pair (.sl I) (.pair I (.pair I .unit))), md := [0, 0, 0], mf := [], m := .unit, r := .bool, rf := .i, f := fun x => zz15 big x.1 x.2.1 x.2.2.1 }
def A_zz15 : Cfg := mkCfg tab [(77, S_zz8)] [(4, [.as (.sl I) .i, .as I .i, .as I .i, .drop, .drop, .drop, .drop, .as I .i]), (13, [])]
noncomputable def zz15_R2 (N n : Nat) (K : Ex → St → Option (Bool × Unit)) (l0 : Y4) (lo1 : Int) (hi2 : Int) (i7 : Int) : Option (Bool × Unit) := iter ((A_zz15).shape 4) (run (A_zz15) N (codeAt Try.f126 [1, 0, 1, 0, 0])) n ([.val (.sl I) .i l0, .val I .i lo1, .val I .i hi2, .u, .u, .u, .u, .val I .i i7] ++ List.replicate 30 .u) K
noncomputable abbrev zz15_z : Ex → St → Option (Bool × Unit) := finish (A_zz15) S_zz15 Try.f126.results.toList
noncomputable abbrev zz15_X2 (kX : St → Option (Bool × Unit)) : Option (Bool × Unit) := kX ([] ++ List.replicate 38 .u)
noncomputable abbrev zz15_E2 (kX : St → Option (Bool × Unit)) (kO : Nat → St → Option (Bool × Unit)) : Ex → St → Option (Bool × Unit) := exK zz15_z 0 ((A_zz15).shape 13) kX kO
theorem zz15_step2 (N : Nat) (m : Nat) (kX : St → Option (Bool × Unit)) (kO : Nat → St → Option (Bool × Unit)) (l0 : Y4) (lo1 : Int) (hi2 : Int) (i7 : Int) : zz15_R2 N (m + 1) (zz15_E2 kX kO) l0 lo1 hi2 i7 = zz15_b2 (zz15_R2 N m (zz15_E2 kX kO)) (zz15_X2 kX) l0 lo1 hi2 i7 := by kernel_rfl
theorem zz15_iter2 (N : Nat) (kX : St → Option (Bool × Unit)) (kO : Nat → St → Option (Bool × Unit)) : ∀ (n : Nat) (l0 : Y4) (lo1 : Int) (hi2 : Int) (i7 : Int), zz15_R2 N n (zz15_E2 kX kO) l0 lo1 hi2 i7 = zz15_l2 N (zz15_X2 kX) n l0 lo1 hi2 i7
  | 0, _, _, _, _ => rfl
  | m + 1, l0, lo1, hi2, i7 => by
    have hrec : zz15_R2 N m (zz15_E2 kX kO) = (zz15_l2 N (zz15_X2 kX) m) := (funext fun l0 => (funext fun lo1 => (funext fun hi2 => (funext fun i7 => zz15_iter2 N kX kO m l0 lo1 hi2 i7))))
    refine (zz15_step2 N m kX kO l0 lo1 hi2 i7).trans ?_
    rw [hrec]
    rfl
noncomputable abbrev zz15_K2 (N : Nat) : Ex → St → Option (Bool × Unit) := (blockK 0 (seqK ((A_zz15).shape 13) (run (A_zz15) N (codeAt Try.f126 [1, 1])) zz15_z))
noncomputable abbrev zz15_k2 (N : Nat) : St → Option (Bool × Unit) := fun st' => run (A_zz15) N (codeAt Try.f126 [1, 1]) st' zz15_z
theorem zz15_after2 (N : Nat) : zz15_X2 (zz15_k2 N) = zz15_a2 := by kernel_rfl
theorem zz15_in2 (N : Nat) (l0 : Y4) (lo1 : Int) (hi2 : Int) (i7 : Int) : zz15_R2 N N (zz15_K2 N) l0 lo1 hi2 i7 = zz15_F2 N l0 lo1 hi2 i7 :=
  have h : zz15_X2 (zz15_k2 N) = (zz15_a2) := zz15_after2 N
  ((iter_ex (fun st => by kernel_rfl) (fun st => by kernel_rfl)).trans (zz15_iter2 N (zz15_k2 N) (fun j st => (zz15_K2 N) (.exit j) st) N l0 lo1 hi2 i7)).trans (congrArg (fun k => zz15_l2 N k N l0 lo1 hi2 i7) h)
theorem run0_zz15 (N : Nat) (x : (S_zz15).a.den) : runF (A_zz15) N Try.f126 S_zz15 x = (zz15_s (zz15_R2 N N (zz15_K2 N)) x.1 x.2.1 x.2.2.1) := by kernel_rfl
theorem run_zz15 (N : Nat) (x : (S_zz15).a.den) : runF (A_zz15) N Try.f126 S_zz15 x = zz15 N x.1 x.2.1 x.2.2.1 := by
  refine (run0_zz15 N x).trans ?_
  rw [(funext fun l0 => (funext fun lo1 => (funext fun hi2 => (funext fun i7 => zz15_in2 N l0 lo1 hi2 i7))))]
  rfl
theorem fn_zz15 : FnOk Try.prog 126 := ⟨_, Try.func126, by kernel_rfl, by kernel_rfl⟩
theorem good_zz15 : Gx.Good Try.prog 126 S_zz15 := good_of_run Try.func126 (of_decide_eq_true (by kernel_rfl)) fun x r h => ⟨A_zz15, big, mkCfg_ok tabOk, mkCfg_sigs (show SigsOk Try.prog [(77, S_zz8)] from ⟨⟨fn_zz8, good_zz8⟩, trivial⟩), (run_zz15 big x).trans h⟩

/-! zz16 -/
def zz16_b2 (rec : Y4 → Int → Int → Option (Bool × Unit)) (k : Option (Bool × Unit)) (l0 : Y4) (n1 : Int) (i5 : Int) : Option (Bool × Unit) :=
  cond (decide (i5 < (l0.length : Int)))
  ((atI l0 i5).bind fun xq1 =>
  cond (decide (xq1 = n1))
  (some (true, (())))
  (rec l0 n1 (IntKind.i64.wrap (i5 + (1 : Int)))))
  (k)
def zz16_a2 : Option (Bool × Unit) :=
  some (false, (()))
def zz16_s (L2 : Y4 → Int → Int → Option (Bool × Unit)) (l_0 : Y4) (n_1 : Int) : Option (Bool × Unit) :=
  L2 l_0 n_1 (0 : Int)
def zz16_l2 (N : Nat) (k : Option (Bool × Unit)) : Nat → Y4 → Int → Int → Option (Bool × Unit)
  | 0, _, _, _ => none
  | m + 1, l0, n1, i5 => zz16_b2 (zz16_l2 N k m) k l0 n1 i5
def zz16_F2 (N : Nat) (l0 : Y4) (n1 : Int) (i5 : Int) : Option (Bool × Unit) := zz16_l2 N (zz16_a2) N l0 n1 i5
def zz16 (N : Nat) (l_0 : Y4) (n_1 : Int) : Option (Bool × Unit) := zz16_s (zz16_F2 N) l_0 n_1
def S_zz16 : Sig := { a := (.pair (.sl I) (.pair I .unit)), md := [0, 0], mf := [], m := .unit, r := .bool, rf := .i, f := fun x => zz16 big x.1 x.2.1 }
def A_zz16 : Cfg := mkCfg tab [] [(4, [.as (.sl I) .i, .as I .i, .drop, .drop, .drop, .as I .i]), (13, [])]
noncomputable def zz16_R2 (N n : Nat) (K : Ex → St → Option (Bool × Unit)) (l0 : Y4) (n1 : Int) (i5 : Int) : Option (Bool × Unit) := iter ((A_zz16).shape 4) (run (A_zz16) N (codeAt Try.f92 [1, 0, 1, 0, 0])) n ([.val (.sl I) .i l0, .val I .i n1, .u, .u, .u, .val I .i i5] ++ List.replicate 12 .u) K
noncomputable abbrev zz16_z : Ex → St → Option (Bool × Unit) := finish (A_zz16) S_zz16 Try.f92.results.toList
noncomputable abbrev zz16_X2 (kX : St → Option (Bool × Unit)) : Option (Bool × Unit) := kX ([] ++ List.replicate 18 .u)
noncomputable abbrev zz16_E2 (kX : St → Option (Bool × Unit)) (kO : Nat → St → Option (Bool × Unit)) : Ex → St → Option (Bool × Unit) := exK zz16_z 0 ((A_zz16).shape 13) kX kO
theorem zz16_step2 (N : Nat) (m : Nat) (kX : St → Option (Bool × Unit)) (kO : Nat → St → Option (Bool × Unit)) (l0 : Y4) (n1 : Int) (i5 : Int) : zz16_R2 N (m + 1) (zz16_E2 kX kO) l0 n1 i5 = zz16_b2 (zz16_R2 N m (zz16_E2 kX kO)) (zz16_X2 kX) l0 n1 i5 := by kernel_rfl
theorem zz16_iter2 (N : Nat) (kX : St → Option (Bool × Unit)) (kO : Nat → St → Option (Bool × Unit)) : ∀ (n : Nat) (l0 : Y4) (n1 : Int) (i5 : Int), zz16_R2 N n (zz16_E2 kX kO) l0 n1 i5 = zz16_l2 N (zz16_X2 kX) n l0 n1 i5
  | 0, _, _, _ => rfl
  | m + 1, l0, n1, i5 => by
    have hrec : zz16_R2 N m (zz16_E2 kX kO) = (zz16_l2 N (zz16_X2 kX) m) := (funext fun l0 => (funext fun n1 => (funext fun i5 => zz16_iter2 N kX kO m l0 n1 i5)))
    refine (zz16_step2 N m kX kO l0 n1 i5).trans ?_
    rw [hrec]
    rfl
noncomputable abbrev zz16_K2 (N : Nat) : Ex → St → Option (Bool × Unit) := (blockK 0 (seqK ((A_zz16).shape 13) (run (A_zz16) N (codeAt Try.f92 [1, 1])) zz16_z))
noncomputable abbrev zz16_k2 (N : Nat) : St → Option (Bool × Unit) := fun st' => run (A_zz16) N (codeAt Try.f92 [1, 1]) st' zz16_z
theorem zz16_after2 (N : Nat) : zz16_X2 (zz16_k2 N) = zz16_a2 := by kernel_rfl
theorem zz16_in2 (N : Nat) (l0 : Y4) (n1 : Int) (i5 : Int) : zz16_R2 N N (zz16_K2 N) l0 n1 i5 = zz16_F2 N l0 n1 i5 :=
  have h : zz16_X2 (zz16_k2 N) = (zz16_a2) := zz16_after2 N
  ((iter_ex (fun st => by kernel_rfl) (fun st => by kernel_rfl)).trans (zz16_iter2 N (zz16_k2 N) (fun j st => (zz16_K2 N) (.exit j) st) N l0 n1 i5)).trans (congrArg (fun k => zz16_l2 N k N l0 n1 i5) h)
theorem run0_zz16 (N : Nat) (x : (S_zz16).a.den) : runF (A_zz16) N Try.f92 S_zz16 x = (zz16_s (zz16_R2 N N (zz16_K2 N)) x.1 x.2.1) := by kernel_rfl
theorem run_zz16 (N : Nat) (x : (S_zz16).a.den) : runF (A_zz16) N Try.f92 S_zz16 x = zz16 N x.1 x.2.1 := by
  refine (run0_zz16 N x).trans ?_
  rw [(funext fun l0 => (funext fun n1 => (funext fun i5 => zz16_in2 N l0 n1 i5)))]
  rfl
theorem fn_zz16 : FnOk Try.prog 92 := ⟨_, Try.func92, by kernel_rfl, by kernel_rfl⟩
theorem good_zz16 : Gx.Good Try.prog 92 S_zz16 := good_of_run Try.func92 (of_decide_eq_true (by kernel_rfl)) fun x r h => ⟨A_zz16, big, mkCfg_ok tabOk, mkCfg_sigs (show SigsOk Try.prog [] from trivial), (run_zz16 big x).trans h⟩

/-! zz17 -/
def zz17_b2 (rec : Y4 → Y4 → Int → Option (Bool × Unit)) (k : Option (Bool × Unit)) (x0 : Y4) (y1 : Y4) (i5 : Int) : Option (Bool × Unit) :=
  cond (decide (i5 < (x0.length : Int)))
  ((atI x0 i5).bind fun xq1 =>
  (zz16 big y1 xq1).bind fun rq2 =>
  cond (!rq2.1)
  (some (false, (())))
  (rec x0 y1 (IntKind.i64.wrap (i5 + (1 : Int)))))
  (k)
def zz17_a2 : Option (Bool × Unit) :=
  some (true, (()))
def zz17_s (L2 : Y4 → Y4 → Int → Option (Bool × Unit)) (x_0 : Y4) (y_1 : Y4) : Option (Bool × Unit) :=
  L2 x_0 y_1 (0 : Int)
def zz17_l2 (N : Nat) (k : Option (Bool × Unit)) : Nat → Y4 → Y4 → Int → Option (Bool × Unit)
  | 0, _, _, _ => none
  | m + 1, x0, y1, i5 => zz17_b2 (zz17_l2 N k m) k x0 y1 i5
def zz17_F2 (N : Nat) (x0 : Y4) (y1 : Y4) (i5 : Int) : Option (Bool × Unit) := zz17_l2 N (zz17_a2) N x0 y1 i5
def zz17 (N : Nat) (x_0 : Y4) (y_1 : Y4) : Option (Bool × Unit) := zz17_s (zz17_F2 N) x_0 y_1
def S_zz17 : Sig := { a := (.pair (.sl I) (.pair (.sl I) .unit)), md := [0, 0], mf := [], m := .unit, r := .bool, rf := .i, f := fun x => zz17 big x.1 x.2.1 }
def A_zz17 : Cfg := mkCfg tab [(92, S_zz16)] [(4, [.as (.sl I) .i, .as (.sl I) .i, .drop, .drop, .drop, .as I .i]), (13, [])]
noncomputable def zz17_R2 (N n : Nat) (K : Ex → St → Option (Bool × Unit)) (x0 : Y4) (y1 : Y4) (i5 : Int) : Option (Bool × Unit) := iter ((A_zz17).shape 4) (run (A_zz17) N (codeAt Try.f127 [1, 0, 1, 0, 0])) n ([.val (.sl I) .i x0, .val (.sl I) .i y1, .u, .u, .u, .val I .i i5] ++ List.replicate 13 .u) K
noncomputable abbrev zz17_z : Ex → St → Option (Bool × Unit) := finish (A_zz17) S_zz17 Try.f127.results.toList
noncomputable abbrev zz17_X2 (kX : St → Option (Bool × Unit)) : Option (Bool × Unit) := kX ([] ++ List.replicate 19 .u)
noncomputable abbrev zz17_E2 (kX : St → Option (Bool × Unit)) (kO : Nat → St → Option (Bool × Unit)) : Ex → St → Option (Bool × Unit) := exK zz17_z 0 ((A_zz17).shape 13) kX kO
theorem zz17_step2 (N : Nat) (m : Nat) (kX : St → Option (Bool × Unit)) (kO : Nat → St → Option (Bool × Unit)) (x0 : Y4) (y1 : Y4) (i5 : Int) : zz17_R2 N (m + 1) (zz17_E2 kX kO) x0 y1 i5 = zz17_b2 (zz17_R2 N m (zz17_E2 kX kO)) (zz17_X2 kX) x0 y1 i5 := by kernel_rfl
theorem zz17_iter2 (N : Nat) (kX : St → Option (Bool × Unit)) (kO : Nat → St → Option (Bool × Unit)) : ∀ (n : Nat) (x0 : Y4) (y1 : Y4) (i5 : Int), zz17_R2 N n (zz17_E2 kX kO) x0 y1 i5 = zz17_l2 N (zz17_X2 kX) n x0 y1 i5
  | 0, _, _, _ => rfl
  | m + 1, x0, y1, i5 => by
    have hrec : zz17_R2 N m (zz17_E2 kX kO) = (zz17_l2 N (zz17_X2 kX) m) := (funext fun x0 => (funext fun y1 => (funext fun i5 => zz17_iter2 N kX kO m x0 y1 i5)))
    refine (zz17_step2 N m kX kO x0 y1 i5).trans ?_
    rw [hrec]
    rfl
noncomputable abbrev zz17_K2 (N : Nat) : Ex → St → Option (Bool × Unit) := (blockK 0 (seqK ((A_zz17).shape 13) (run (A_zz17) N (codeAt Try.f127 [1, 1])) zz17_z))
noncomputable abbrev zz17_k2 (N : Nat) : St → Option (Bool × Unit) := fun st' => run (A_zz17) N (codeAt Try.f127 [1, 1]) st' zz17_z
theorem zz17_after2 (N : Nat) : zz17_X2 (zz17_k2 N) = zz17_a2 := by kernel_rfl
theorem zz17_in2 (N : Nat) (x0 : Y4) (y1 : Y4) (i5 : Int) : zz17_R2 N N (zz17_K2 N) x0 y1 i5 = zz17_F2 N x0 y1 i5 :=
  have h : zz17_X2 (zz17_k2 N) = (zz17_a2) := zz17_after2 N
  ((iter_ex (fun st => by kernel_rfl) (fun st => by kernel_rfl)).trans (zz17_iter2 N (zz17_k2 N) (fun j st => (zz17_K2 N) (.exit j) st) N x0 y1 i5)).trans (congrArg (fun k => zz17_l2 N k N x0 y1 i5) h)
theorem run0_zz17 (N : Nat) (x : (S_zz17).a.den) : runF (A_zz17) N Try.f127 S_zz17 x = (zz17_s (zz17_R2 N N (zz17_K2 N)) x.1 x.2.1) := by kernel_rfl
theorem run_zz17 (N : Nat) (x : (S_zz17).a.den) : runF (A_zz17) N Try.f127 S_zz17 x = zz17 N x.1 x.2.1 := by
  refine (run0_zz17 N x).trans ?_
  rw [(funext fun x0 => (funext fun y1 => (funext fun i5 => zz17_in2 N x0 y1 i5)))]
  rfl
theorem fn_zz17 : FnOk Try.prog 127 := ⟨_, Try.func127, by kernel_rfl, by kernel_rfl⟩
theorem good_zz17 : Gx.Good Try.prog 127 S_zz17 := good_of_run Try.func127 (of_decide_eq_true (by kernel_rfl)) fun x r h => ⟨A_zz17, big, mkCfg_ok tabOk, mkCfg_sigs (show SigsOk Try.prog [(92, S_zz16)] from ⟨⟨fn_zz16, good_zz16⟩, trivial⟩), (run_zz17 big x).trans h⟩

/-! zz18 -/
def zz18_b13 (rec : Y2 → Int → Int → Int → Option (Bool × Unit)) (k : Y2 → Int → Int → Option (Bool × Unit)) (p1 : Y2) (n3 : Int) (x5 : Int) (i6 : Int) : Option (Bool × Unit) :=
  (atI p1.1 x5).bind fun xq5 =>
  cond (decide (i6 < (xq5.length : Int)))
  ((atI p1.1 x5).bind fun xq6 =>
  (atI xq6 i6).bind fun xq7 =>
  cond (decide (xq7 ≠ x5))
  ((atI p1.1 xq7).bind fun xq8 =>
  (zz16 big xq8 x5).bind fun rq9 =>
  cond rq9.1
  (some (false, (())))
  ((atI p1.1 xq7).bind fun xq10 =>
  (atI p1.1 x5).bind fun xq11 =>
  (zz17 big xq10 xq11).bind fun rq12 =>
  cond (!rq12.1)
  (some (false, (())))
  (rec p1 n3 x5 (IntKind.i64.wrap (i6 + (1 : Int))))))
  ((atI p1.1 xq7).bind fun xq13 =>
  (atI p1.1 x5).bind fun xq14 =>
  (zz17 big xq13 xq14).bind fun rq15 =>
  cond (!rq15.1)
  (some (false, (())))
  (rec p1 n3 x5 (IntKind.i64.wrap (i6 + (1 : Int))))))
  (k p1 n3 x5)
def zz18_a13 (rec : Y2 → Int → Int → Option (Bool × Unit)) (p1 : Y2) (n3 : Int) (x5 : Int) : Option (Bool × Unit) :=
  rec p1 n3 (IntKind.i64.wrap (x5 + (1 : Int)))
def zz18_b10 (L13 : Y2 → Int → Int → Int → Option (Bool × Unit)) (k : Option (Bool × Unit)) (p1 : Y2) (n3 : Int) (x5 : Int) : Option (Bool × Unit) :=
  cond (decide (x5 < n3))
  (L13 p1 n3 x5 (0 : Int))
  (k)
def zz18_a10 : Option (Bool × Unit) :=
  some (true, (()))
def zz18_b5 (rec : Y2 → Int → Int → Option (Bool × Unit)) (k : Y2 → Int → Option (Bool × Unit)) (p1 : Y2) (n3 : Int) (x4 : Int) : Option (Bool × Unit) :=
  cond (decide (x4 < n3))
  ((atI p1.1 x4).bind fun xq1 =>
  (zz15 big xq1 (0 : Int) (IntKind.i64.wrap (n3 - (1 : Int)))).bind fun rq2 =>
  cond (!rq2.1)
  (some (false, (())))
  ((atI p1.1 x4).bind fun xq3 =>
  (zz16 big xq3 x4).bind fun rq4 =>
  cond (!rq4.1)
  (some (false, (())))
  (rec p1 n3 (IntKind.i64.wrap (x4 + (1 : Int))))))
  (k p1 n3)
def zz18_a5 (L10 : Y2 → Int → Int → Option (Bool × Unit)) (p1 : Y2) (n3 : Int) : Option (Bool × Unit) :=
  L10 p1 n3 (0 : Int)
def zz18_s (L5 : Y2 → Int → Int → Option (Bool × Unit)) (p_0 : Y2) : Option (Bool × Unit) :=
  cond (decide ((10 : Int) < (p_0.1.length : Int)))
  (some (false, (())))
  (L5 p_0 (p_0.1.length : Int) (0 : Int))
def zz18_l13 (N : Nat) (k : Y2 → Int → Int → Option (Bool × Unit)) : Nat → Y2 → Int → Int → Int → Option (Bool × Unit)
  | 0, _, _, _, _ => none
  | m + 1, p1, n3, x5, i6 => zz18_b13 (zz18_l13 N k m) k p1 n3 x5 i6
def zz18_F13 (N : Nat) (rec : Y2 → Int → Int → Option (Bool × Unit)) (k : Option (Bool × Unit)) (p1 : Y2) (n3 : Int) (x5 : Int) (i6 : Int) : Option (Bool × Unit) := zz18_l13 N (zz18_a13 rec) N p1 n3 x5 i6
def zz18_l5 (N : Nat) (k : Y2 → Int → Option (Bool × Unit)) : Nat → Y2 → Int → Int → Option (Bool × Unit)
  | 0, _, _, _ => none
  | m + 1, p1, n3, x4 => zz18_b5 (zz18_l5 N k m) k p1 n3 x4
def zz18_l10 (N : Nat) (k : Option (Bool × Unit)) : Nat → Y2 → Int → Int → Option (Bool × Unit)
  | 0, _, _, _ => none
  | m + 1, p1, n3, x5 => zz18_b10 (zz18_F13 N (zz18_l10 N k m) k) k p1 n3 x5
def zz18_F10 (N : Nat) (p1 : Y2) (n3 : Int) (x5 : Int) : Option (Bool × Unit) := zz18_l10 N (zz18_a10) N p1 n3 x5
def zz18_F5 (N : Nat) (p1 : Y2) (n3 : Int) (x4 : Int) : Option (Bool × Unit) := zz18_l5 N (zz18_a5 (zz18_F10 N)) N p1 n3 x4
def zz18 (N : Nat) (p_0 : Y2) : Option (Bool × Unit) := zz18_s (zz18_F5 N) p_0
def S_zz18 : Sig := { a := (.pair (.pair (.sl (.sl I)) .unit) .unit), md := [0], mf := [], m := .unit, r := .bool, rf := .i, f := fun x => zz18 big x.1 }
def A_zz18 : Cfg := mkCfg tab [(126, S_zz15), (92, S_zz16), (127, S_zz17)] [(10, [.drop, .as (.ptr (.pair (.sl (.sl I)) .unit)) (.o .i), .drop, .as I .i, .as I .i]), (19, [.drop, .as (.ptr (.pair (.sl (.sl I)) .unit)) (.o .i), .drop, .as I .i]), (20, [.drop, .as (.ptr (.pair (.sl (.sl I)) .unit)) (.o .i), .drop, .as I .i, .drop, .as I .i]), (26, [.drop, .as (.ptr (.pair (.sl (.sl I)) .unit)) (.o .i), .drop, .as I .i, .drop, .as I .i, .as I .i]), (37, []), (23, [.drop, .as (.ptr (.pair (.sl (.sl I)) .unit)) (.o .i), .drop, .as I .i, .drop, .as I .i])]
noncomputable def zz18_R5 (N n : Nat) (K : Ex → St → Option (Bool × Unit)) (p1 : Y2) (n3 : Int) (x4 : Int) : Option (Bool × Unit) := iter ((A_zz18).shape 10) (run (A_zz18) N (codeAt Try.f106 [1, 1, 1, 0, 1, 0, 0])) n ([.u, .val (.ptr (.pair (.sl (.sl I)) .unit)) (.o .i) p1, .u, .val I .i n3, .val I .i x4] ++ List.replicate 81 .u) K
noncomputable def zz18_R10 (N n : Nat) (K : Ex → St → Option (Bool × Unit)) (p1 : Y2) (n3 : Int) (x5 : Int) : Option (Bool × Unit) := iter ((A_zz18).shape 20) (run (A_zz18) N (codeAt Try.f106 [1, 1, 1, 1, 0, 1, 0, 0])) n ([.u, .val (.ptr (.pair (.sl (.sl I)) .unit)) (.o .i) p1, .u, .val I .i n3, .u, .val I .i x5] ++ List.replicate 80 .u) K
noncomputable def zz18_R13 (N n : Nat) (K : Ex → St → Option (Bool × Unit)) (p1 : Y2) (n3 : Int) (x5 : Int) (i6 : Int) : Option (Bool × Unit) := iter ((A_zz18).shape 26) (run (A_zz18) N (codeAt Try.f106 [1, 1, 1, 1, 0, 1, 0, 0, 1, 0, 0, 1, 0, 0])) n ([.u, .val (.ptr (.pair (.sl (.sl I)) .unit)) (.o .i) p1, .u, .val I .i n3, .u, .val I .i x5, .val I .i i6] ++ List.replicate 79 .u) K
noncomputable abbrev zz18_z : Ex → St → Option (Bool × Unit) := finish (A_zz18) S_zz18 Try.f106.results.toList
noncomputable abbrev zz18_X5 (kX : St → Option (Bool × Unit)) : Y2 → Int → Option (Bool × Unit) := fun (p1 : Y2) (n3 : Int) => kX ([.u, .val (.ptr (.pair (.sl (.sl I)) .unit)) (.o .i) p1, .u, .val I .i n3] ++ List.replicate 82 .u)
noncomputable abbrev zz18_E5 (kX : St → Option (Bool × Unit)) (kO : Nat → St → Option (Bool × Unit)) : Ex → St → Option (Bool × Unit) := exK zz18_z 0 ((A_zz18).shape 19) kX kO
noncomputable abbrev zz18_X10 (kX : St → Option (Bool × Unit)) : Option (Bool × Unit) := kX ([] ++ List.replicate 86 .u)
noncomputable abbrev zz18_E10 (kX : St → Option (Bool × Unit)) (kO : Nat → St → Option (Bool × Unit)) : Ex → St → Option (Bool × Unit) := exK zz18_z 2 ((A_zz18).shape 37) kX kO
noncomputable abbrev zz18_X13 (kX : St → Option (Bool × Unit)) : Y2 → Int → Int → Option (Bool × Unit) := fun (p1 : Y2) (n3 : Int) (x5 : Int) => kX ([.u, .val (.ptr (.pair (.sl (.sl I)) .unit)) (.o .i) p1, .u, .val I .i n3, .u, .val I .i x5] ++ List.replicate 80 .u)
noncomputable abbrev zz18_E13 (kX : St → Option (Bool × Unit)) (kO : Nat → St → Option (Bool × Unit)) : Ex → St → Option (Bool × Unit) := exK zz18_z 4 ((A_zz18).shape 23) kX kO
theorem zz18_step5 (N : Nat) (m : Nat) (kX : St → Option (Bool × Unit)) (kO : Nat → St → Option (Bool × Unit)) (p1 : Y2) (n3 : Int) (x4 : Int) : zz18_R5 N (m + 1) (zz18_E5 kX kO) p1 n3 x4 = zz18_b5 (zz18_R5 N m (zz18_E5 kX kO)) (zz18_X5 kX) p1 n3 x4 := by kernel_rfl
theorem zz18_iter5 (N : Nat) (kX : St → Option (Bool × Unit)) (kO : Nat → St → Option (Bool × Unit)) : ∀ (n : Nat) (p1 : Y2) (n3 : Int) (x4 : Int), zz18_R5 N n (zz18_E5 kX kO) p1 n3 x4 = zz18_l5 N (zz18_X5 kX) n p1 n3 x4
  | 0, _, _, _ => rfl
  | m + 1, p1, n3, x4 => by
    have hrec : zz18_R5 N m (zz18_E5 kX kO) = (zz18_l5 N (zz18_X5 kX) m) := (funext fun p1 => (funext fun n3 => (funext fun x4 => zz18_iter5 N kX kO m p1 n3 x4)))
    refine (zz18_step5 N m kX kO p1 n3 x4).trans ?_
    rw [hrec]
    rfl
noncomputable abbrev zz18_K5 (N : Nat) : Ex → St → Option (Bool × Unit) := (blockK 0 (seqK ((A_zz18).shape 19) (run (A_zz18) N (codeAt Try.f106 [1, 1, 1, 1])) zz18_z))
theorem zz18_step13 (N : Nat) (m : Nat) (kX : St → Option (Bool × Unit)) (kO : Nat → St → Option (Bool × Unit)) (p1 : Y2) (n3 : Int) (x5 : Int) (i6 : Int) : zz18_R13 N (m + 1) (zz18_E13 kX kO) p1 n3 x5 i6 = zz18_b13 (zz18_R13 N m (zz18_E13 kX kO)) (zz18_X13 kX) p1 n3 x5 i6 := by kernel_rfl
theorem zz18_iter13 (N : Nat) (kX : St → Option (Bool × Unit)) (kO : Nat → St → Option (Bool × Unit)) : ∀ (n : Nat) (p1 : Y2) (n3 : Int) (x5 : Int) (i6 : Int), zz18_R13 N n (zz18_E13 kX kO) p1 n3 x5 i6 = zz18_l13 N (zz18_X13 kX) n p1 n3 x5 i6
  | 0, _, _, _, _ => rfl
  | m + 1, p1, n3, x5, i6 => by
    have hrec : zz18_R13 N m (zz18_E13 kX kO) = (zz18_l13 N (zz18_X13 kX) m) := (funext fun p1 => (funext fun n3 => (funext fun x5 => (funext fun i6 => zz18_iter13 N kX kO m p1 n3 x5 i6))))
    refine (zz18_step13 N m kX kO p1 n3 x5 i6).trans ?_
    rw [hrec]
    rfl
noncomputable abbrev zz18_K13 (N : Nat) (m : Nat) (kX : St → Option (Bool × Unit)) (kO : Nat → St → Option (Bool × Unit)) : Ex → St → Option (Bool × Unit) := (blockK 4 (blockK 3 (seqK ((A_zz18).shape 23) (run (A_zz18) N (codeAt Try.f106 [1, 1, 1, 1, 0, 1, 0, 0, 1, 1])) (iterK ((A_zz18).shape 20) (run (A_zz18) N (codeAt Try.f106 [1, 1, 1, 1, 0, 1, 0, 0])) m (zz18_E10 kX kO)))))
noncomputable abbrev zz18_k13 (N : Nat) (m : Nat) (kX : St → Option (Bool × Unit)) (kO : Nat → St → Option (Bool × Unit)) : St → Option (Bool × Unit) := fun st' => run (A_zz18) N (codeAt Try.f106 [1, 1, 1, 1, 0, 1, 0, 0, 1, 1]) st' (iterK ((A_zz18).shape 20) (run (A_zz18) N (codeAt Try.f106 [1, 1, 1, 1, 0, 1, 0, 0])) m (zz18_E10 kX kO))
theorem zz18_after13 (N : Nat) (m : Nat) (kX : St → Option (Bool × Unit)) (kO : Nat → St → Option (Bool × Unit)) (p1 : Y2) (n3 : Int) (x5 : Int) : zz18_X13 (zz18_k13 N m kX kO) p1 n3 x5 = zz18_a13 (zz18_R10 N m (zz18_E10 kX kO)) p1 n3 x5 := by kernel_rfl
theorem zz18_in13 (N : Nat) (m : Nat) (kX : St → Option (Bool × Unit)) (kO : Nat → St → Option (Bool × Unit)) (recF : Y2 → Int → Int → Option (Bool × Unit)) (hrec : zz18_R10 N m (zz18_E10 kX kO) = recF) (p1 : Y2) (n3 : Int) (x5 : Int) (i6 : Int) : zz18_R13 N N (zz18_K13 N m kX kO) p1 n3 x5 i6 = zz18_F13 N recF (zz18_X10 kX) p1 n3 x5 i6 :=
  have h : zz18_X13 (zz18_k13 N m kX kO) = (zz18_a13 recF) := (funext fun p1 => (funext fun n3 => (funext fun x5 => (zz18_after13 N m kX kO p1 n3 x5).trans (by rw [hrec]))))
  ((iter_ex (fun st => by kernel_rfl) (fun st => by kernel_rfl)).trans (zz18_iter13 N (zz18_k13 N m kX kO) (fun j st => (zz18_K13 N m kX kO) (.exit j) st) N p1 n3 x5 i6)).trans (congrArg (fun k => zz18_l13 N k N p1 n3 x5 i6) h)
theorem zz18_step10 (N : Nat) (m : Nat) (kX : St → Option (Bool × Unit)) (kO : Nat → St → Option (Bool × Unit)) (p1 : Y2) (n3 : Int) (x5 : Int) : zz18_R10 N (m + 1) (zz18_E10 kX kO) p1 n3 x5 = zz18_b10 (zz18_R13 N N (zz18_K13 N m kX kO)) (zz18_X10 kX) p1 n3 x5 := by kernel_rfl
theorem zz18_iter10 (N : Nat) (kX : St → Option (Bool × Unit)) (kO : Nat → St → Option (Bool × Unit)) : ∀ (n : Nat) (p1 : Y2) (n3 : Int) (x5 : Int), zz18_R10 N n (zz18_E10 kX kO) p1 n3 x5 = zz18_l10 N (zz18_X10 kX) n p1 n3 x5
  | 0, _, _, _ => rfl
  | m + 1, p1, n3, x5 => by
    have hrec : zz18_R10 N m (zz18_E10 kX kO) = (zz18_l10 N (zz18_X10 kX) m) := (funext fun p1 => (funext fun n3 => (funext fun x5 => zz18_iter10 N kX kO m p1 n3 x5)))
    refine (zz18_step10 N m kX kO p1 n3 x5).trans ?_
    rw [(funext fun p1 => (funext fun n3 => (funext fun x5 => (funext fun i6 => zz18_in13 N m kX kO (zz18_l10 N (zz18_X10 kX) m) hrec p1 n3 x5 i6))))]
    rfl
noncomputable abbrev zz18_K10 (N : Nat) : Ex → St → Option (Bool × Unit) := (blockK 2 (seqK ((A_zz18).shape 37) (run (A_zz18) N (codeAt Try.f106 [1, 1, 1, 1, 1])) zz18_z))
noncomputable abbrev zz18_k10 (N : Nat) : St → Option (Bool × Unit) := fun st' => run (A_zz18) N (codeAt Try.f106 [1, 1, 1, 1, 1]) st' zz18_z
theorem zz18_after10 (N : Nat) : zz18_X10 (zz18_k10 N) = zz18_a10 := by kernel_rfl
theorem zz18_in10 (N : Nat) (p1 : Y2) (n3 : Int) (x5 : Int) : zz18_R10 N N (zz18_K10 N) p1 n3 x5 = zz18_F10 N p1 n3 x5 :=
  have h : zz18_X10 (zz18_k10 N) = (zz18_a10) := zz18_after10 N
  ((iter_ex (fun st => by kernel_rfl) (fun st => by kernel_rfl)).trans (zz18_iter10 N (zz18_k10 N) (fun j st => (zz18_K10 N) (.exit j) st) N p1 n3 x5)).trans (congrArg (fun k => zz18_l10 N k N p1 n3 x5) h)
noncomputable abbrev zz18_k5 (N : Nat) : St → Option (Bool × Unit) := fun st' => run (A_zz18) N (codeAt Try.f106 [1, 1, 1, 1]) st' zz18_z
theorem zz18_after5 (N : Nat) (p1 : Y2) (n3 : Int) : zz18_X5 (zz18_k5 N) p1 n3 = zz18_a5 (zz18_R10 N N (zz18_K10 N)) p1 n3 := by kernel_rfl
theorem zz18_in5 (N : Nat) (p1 : Y2) (n3 : Int) (x4 : Int) : zz18_R5 N N (zz18_K5 N) p1 n3 x4 = zz18_F5 N p1 n3 x4 :=
  have h : zz18_X5 (zz18_k5 N) = (zz18_a5 (zz18_F10 N)) := (funext fun p1 => (funext fun n3 => (zz18_after5 N p1 n3).trans (by rw [(funext fun p1 => (funext fun n3 => (funext fun x5 => zz18_in10 N p1 n3 x5)))])))
  ((iter_ex (fun st => by kernel_rfl) (fun st => by kernel_rfl)).trans (zz18_iter5 N (zz18_k5 N) (fun j st => (zz18_K5 N) (.exit j) st) N p1 n3 x4)).trans (congrArg (fun k => zz18_l5 N k N p1 n3 x4) h)
theorem run0_zz18 (N : Nat) (x : (S_zz18).a.den) : runF (A_zz18) N Try.f106 S_zz18 x = (zz18_s (zz18_R5 N N (zz18_K5 N)) x.1) := by kernel_rfl
theorem run_zz18 (N : Nat) (x : (S_zz18).a.den) : runF (A_zz18) N Try.f106 S_zz18 x = zz18 N x.1 := by
  refine (run0_zz18 N x).trans ?_
  rw [(funext fun p1 => (funext fun n3 => (funext fun x4 => zz18_in5 N p1 n3 x4)))]
  rfl
theorem fn_zz18 : FnOk Try.prog 106 := ⟨_, Try.func106, by kernel_rfl, by kernel_rfl⟩
theorem good_zz18 : Gx.Good Try.prog 106 S_zz18 := good_of_run Try.func106 (of_decide_eq_true (by kernel_rfl)) fun x r h => ⟨A_zz18, big, mkCfg_ok tabOk, mkCfg_sigs (show SigsOk Try.prog [(126, S_zz15), (92, S_zz16), (127, S_zz17)] from ⟨⟨fn_zz15, good_zz15⟩, ⟨fn_zz16, good_zz16⟩, ⟨fn_zz17, good_zz17⟩, trivial⟩), (run_zz18 big x).trans h⟩

/-! zz19 -/
def zz19_s (p_0 : Y2) (x_1 : Int) (y_2 : Int) : Option (Bool × Unit) :=
  (atI p_0.1 y_2).bind fun xq1 =>
  (zz16 big xq1 x_1).bind fun rq2 =>
  some (rq2.1, (()))
def zz19 (p_0 : Y2) (x_1 : Int) (y_2 : Int) : Option (Bool × Unit) := zz19_s p_0 x_1 y_2
def S_zz19 : Sig := { a := (.pair (.pair (.sl (.sl I)) .unit) (.pair I (.pair I .unit))), md := [0, 0, 0], mf := [], m := .unit, r := .bool, rf := .i, f := fun x => zz19 x.1 x.2.1 x.2.2.1 }
def A_zz19 : Cfg := mkCfg tab [(92, S_zz16)] []
theorem run_zz19 (N : Nat) (x : (S_zz19).a.den) : runF (A_zz19) N Try.f128 S_zz19 x = zz19 x.1 x.2.1 x.2.2.1 := by kernel_rfl
theorem fn_zz19 : FnOk Try.prog 128 := ⟨_, Try.func128, by kernel_rfl, by kernel_rfl⟩
theorem good_zz19 : Gx.Good Try.prog 128 S_zz19 := good_of_run Try.func128 (of_decide_eq_true (by kernel_rfl)) fun x r h => ⟨A_zz19, big, mkCfg_ok tabOk, mkCfg_sigs (show SigsOk Try.prog [(92, S_zz16)] from ⟨⟨fn_zz16, good_zz16⟩, trivial⟩), (run_zz19 big x).trans h⟩

/-! zz20 -/
def zz20_b7 (rec : Y2 → Y2 → Y2 → Int → Y4 → Int → Option (Y2 × Unit)) (k : Y2 → Y2 → Y2 → Int → Y4 → Option (Y2 × Unit)) (p1 : Y2) (t2 : Y2) (out3 : Y2) (x4 : Int) (below5 : Y4) (y6 : Int) : Option (Y2 × Unit) :=
  cond (decide (y6 < (p1.1.length : Int)))
  ((zz19 p1 x4 y6).bind fun rq1 =>
  cond rq1.1
  ((appI below5 [y6]).bind fun xq2 =>
  rec p1 t2 out3 x4 xq2 (IntKind.i64.wrap (y6 + (1 : Int))))
  (rec p1 t2 out3 x4 below5 (IntKind.i64.wrap (y6 + (1 : Int)))))
  (k p1 t2 out3 x4 below5)
def zz20_a7 (rec : Y2 → Y2 → Y2 → Int → Option (Y2 × Unit)) (p1 : Y2) (t2 : Y2) (out3 : Y2) (x4 : Int) (below5 : Y4) : Option (Y2 × Unit) :=
  (appI out3.1 [below5]).bind fun xq3 =>
  rec p1 t2 (xq3, ((), out3.2).2) (IntKind.i64.wrap (x4 + (1 : Int)))
def zz20_b3 (L7 : Y2 → Y2 → Y2 → Int → Y4 → Int → Option (Y2 × Unit)) (k : Y2 → Y2 → Option (Y2 × Unit)) (p1 : Y2) (t2 : Y2) (out3 : Y2) (x4 : Int) : Option (Y2 × Unit) :=
  cond (decide (x4 < (p1.1.length : Int)))
  (L7 p1 t2 out3 x4 [] (0 : Int))
  (k t2 out3)
def zz20_a3 (t2 : Y2) (out3 : Y2) : Option (Y2 × Unit) :=
  some (out3, (()))
def zz20_s (L3 : Y2 → Y2 → Y2 → Int → Option (Y2 × Unit)) (p_0 : Y2) : Option (Y2 × Unit) :=
  L3 p_0 (([] : Y3), ()) ([], ()) (0 : Int)
def zz20_l7 (N : Nat) (k : Y2 → Y2 → Y2 → Int → Y4 → Option (Y2 × Unit)) : Nat → Y2 → Y2 → Y2 → Int → Y4 → Int → Option (Y2 × Unit)
  | 0, _, _, _, _, _, _ => none
  | m + 1, p1, t2, out3, x4, below5, y6 => zz20_b7 (zz20_l7 N k m) k p1 t2 out3 x4 below5 y6
def zz20_F7 (N : Nat) (rec : Y2 → Y2 → Y2 → Int → Option (Y2 × Unit)) (k : Y2 → Y2 → Option (Y2 × Unit)) (p1 : Y2) (t2 : Y2) (out3 : Y2) (x4 : Int) (below5 : Y4) (y6 : Int) : Option (Y2 × Unit) := zz20_l7 N (zz20_a7 rec) N p1 t2 out3 x4 below5 y6
def zz20_l3 (N : Nat) (k : Y2 → Y2 → Option (Y2 × Unit)) : Nat → Y2 → Y2 → Y2 → Int → Option (Y2 × Unit)
  | 0, _, _, _, _ => none
  | m + 1, p1, t2, out3, x4 => zz20_b3 (zz20_F7 N (zz20_l3 N k m) k) k p1 t2 out3 x4
def zz20_F3 (N : Nat) (p1 : Y2) (t2 : Y2) (out3 : Y2) (x4 : Int) : Option (Y2 × Unit) := zz20_l3 N (zz20_a3) N p1 t2 out3 x4
def zz20 (N : Nat) (p_0 : Y2) : Option (Y2 × Unit) := zz20_s (zz20_F3 N) p_0
def S_zz20 : Sig := { a := (.pair (.pair (.sl (.sl I)) .unit) .unit), md := [0], mf := [], m := .unit, r := (.pair (.sl (.sl I)) .unit), rf := (.p (.o (.o .i)) .i), f := fun x => zz20 big x.1 }
def A_zz20 : Cfg := mkCfg tab [(128, S_zz19)] [(6, [.drop, .as (.ptr (.pair (.sl (.sl I)) .unit)) (.o .i), .as (.ptr (.pair (.sl (.sl I)) .unit)) (.o (.p (.o (.o .i)) .i)), .as (.ptr (.pair (.sl (.sl I)) .unit)) (.o (.p (.o (.o .i)) .i)), .as I .i]), (14, [.drop, .as (.ptr (.pair (.sl (.sl I)) .unit)) (.o .i), .as (.ptr (.pair (.sl (.sl I)) .unit)) (.o (.p (.o (.o .i)) .i)), .as (.ptr (.pair (.sl (.sl I)) .unit)) (.o (.p (.o (.o .i)) .i)), .as I .i, .as (.sl I) (.o .i), .as I .i]), (25, [.drop, .drop, .as (.ptr (.pair (.sl (.sl I)) .unit)) (.o (.p (.o (.o .i)) .i)), .as (.ptr (.pair (.sl (.sl I)) .unit)) (.o (.p (.o (.o .i)) .i))]), (23, [.drop, .as (.ptr (.pair (.sl (.sl I)) .unit)) (.o .i), .as (.ptr (.pair (.sl (.sl I)) .unit)) (.o (.p (.o (.o .i)) .i)), .as (.ptr (.pair (.sl (.sl I)) .unit)) (.o (.p (.o (.o .i)) .i)), .as I .i, .as (.sl I) (.o .i)])]
noncomputable def zz20_R3 (N n : Nat) (K : Ex → St → Option (Y2 × Unit)) (p1 : Y2) (t2 : Y2) (out3 : Y2) (x4 : Int) : Option (Y2 × Unit) := iter ((A_zz20).shape 6) (run (A_zz20) N (codeAt Try.f107 [1, 1, 0, 1, 0, 0])) n ([.u, .val (.ptr (.pair (.sl (.sl I)) .unit)) (.o .i) p1, .val (.ptr (.pair (.sl (.sl I)) .unit)) (.o (.p (.o (.o .i)) .i)) t2, .val (.ptr (.pair (.sl (.sl I)) .unit)) (.o (.p (.o (.o .i)) .i)) out3, .val I .i x4] ++ List.replicate 34 .u) K
noncomputable def zz20_R7 (N n : Nat) (K : Ex → St → Option (Y2 × Unit)) (p1 : Y2) (t2 : Y2) (out3 : Y2) (x4 : Int) (below5 : Y4) (y6 : Int) : Option (Y2 × Unit) := iter ((A_zz20).shape 14) (run (A_zz20) N (codeAt Try.f107 [1, 1, 0, 1, 0, 0, 1, 0, 0, 1, 0, 1, 0, 0])) n ([.u, .val (.ptr (.pair (.sl (.sl I)) .unit)) (.o .i) p1, .val (.ptr (.pair (.sl (.sl I)) .unit)) (.o (.p (.o (.o .i)) .i)) t2, .val (.ptr (.pair (.sl (.sl I)) .unit)) (.o (.p (.o (.o .i)) .i)) out3, .val I .i x4, .val (.sl I) (.o .i) below5, .val I .i y6] ++ List.replicate 32 .u) K
noncomputable abbrev zz20_z : Ex → St → Option (Y2 × Unit) := finish (A_zz20) S_zz20 Try.f107.results.toList
noncomputable abbrev zz20_X3 (kX : St → Option (Y2 × Unit)) : Y2 → Y2 → Option (Y2 × Unit) := fun (t2 : Y2) (out3 : Y2) => kX ([.u, .u, .val (.ptr (.pair (.sl (.sl I)) .unit)) (.o (.p (.o (.o .i)) .i)) t2, .val (.ptr (.pair (.sl (.sl I)) .unit)) (.o (.p (.o (.o .i)) .i)) out3] ++ List.replicate 35 .u)
noncomputable abbrev zz20_E3 (kX : St → Option (Y2 × Unit)) (kO : Nat → St → Option (Y2 × Unit)) : Ex → St → Option (Y2 × Unit) := exK zz20_z 0 ((A_zz20).shape 25) kX kO
noncomputable abbrev zz20_X7 (kX : St → Option (Y2 × Unit)) : Y2 → Y2 → Y2 → Int → Y4 → Option (Y2 × Unit) := fun (p1 : Y2) (t2 : Y2) (out3 : Y2) (x4 : Int) (below5 : Y4) => kX ([.u, .val (.ptr (.pair (.sl (.sl I)) .unit)) (.o .i) p1, .val (.ptr (.pair (.sl (.sl I)) .unit)) (.o (.p (.o (.o .i)) .i)) t2, .val (.ptr (.pair (.sl (.sl I)) .unit)) (.o (.p (.o (.o .i)) .i)) out3, .val I .i x4, .val (.sl I) (.o .i) below5] ++ List.replicate 33 .u)
noncomputable abbrev zz20_E7 (kX : St → Option (Y2 × Unit)) (kO : Nat → St → Option (Y2 × Unit)) : Ex → St → Option (Y2 × Unit) := exK zz20_z 2 ((A_zz20).shape 23) kX kO
theorem zz20_step7 (N : Nat) (m : Nat) (kX : St → Option (Y2 × Unit)) (kO : Nat → St → Option (Y2 × Unit)) (p1 : Y2) (t2 : Y2) (out3 : Y2) (x4 : Int) (below5 : Y4) (y6 : Int) : zz20_R7 N (m + 1) (zz20_E7 kX kO) p1 t2 out3 x4 below5 y6 = zz20_b7 (zz20_R7 N m (zz20_E7 kX kO)) (zz20_X7 kX) p1 t2 out3 x4 below5 y6 := by kernel_rfl
theorem zz20_iter7 (N : Nat) (kX : St → Option (Y2 × Unit)) (kO : Nat → St → Option (Y2 × Unit)) : ∀ (n : Nat) (p1 : Y2) (t2 : Y2) (out3 : Y2) (x4 : Int) (below5 : Y4) (y6 : Int), zz20_R7 N n (zz20_E7 kX kO) p1 t2 out3 x4 below5 y6 = zz20_l7 N (zz20_X7 kX) n p1 t2 out3 x4 below5 y6
  | 0, _, _, _, _, _, _ => rfl
  | m + 1, p1, t2, out3, x4, below5, y6 => by
    have hrec : zz20_R7 N m (zz20_E7 kX kO) = (zz20_l7 N (zz20_X7 kX) m) := (funext fun p1 => (funext fun t2 => (funext fun out3 => (funext fun x4 => (funext fun below5 => (funext fun y6 => zz20_iter7 N kX kO m p1 t2 out3 x4 below5 y6))))))
    refine (zz20_step7 N m kX kO p1 t2 out3 x4 below5 y6).trans ?_
    rw [hrec]
    rfl
noncomputable abbrev zz20_K7 (N : Nat) (m : Nat) (kX : St → Option (Y2 × Unit)) (kO : Nat → St → Option (Y2 × Unit)) : Ex → St → Option (Y2 × Unit) := (blockK 2 (seqK ((A_zz20).shape 23) (run (A_zz20) N (codeAt Try.f107 [1, 1, 0, 1, 0, 0, 1, 0, 0, 1, 1])) (blockK 1 (seqK ((A_zz20).shape 9) (run (A_zz20) N (codeAt Try.f107 [1, 1, 0, 1, 0, 0, 1, 1])) (iterK ((A_zz20).shape 6) (run (A_zz20) N (codeAt Try.f107 [1, 1, 0, 1, 0, 0])) m (zz20_E3 kX kO))))))
noncomputable abbrev zz20_k7 (N : Nat) (m : Nat) (kX : St → Option (Y2 × Unit)) (kO : Nat → St → Option (Y2 × Unit)) : St → Option (Y2 × Unit) := fun st' => run (A_zz20) N (codeAt Try.f107 [1, 1, 0, 1, 0, 0, 1, 0, 0, 1, 1]) st' (blockK 1 (seqK ((A_zz20).shape 9) (run (A_zz20) N (codeAt Try.f107 [1, 1, 0, 1, 0, 0, 1, 1])) (iterK ((A_zz20).shape 6) (run (A_zz20) N (codeAt Try.f107 [1, 1, 0, 1, 0, 0])) m (zz20_E3 kX kO))))
theorem zz20_after7 (N : Nat) (m : Nat) (kX : St → Option (Y2 × Unit)) (kO : Nat → St → Option (Y2 × Unit)) (p1 : Y2) (t2 : Y2) (out3 : Y2) (x4 : Int) (below5 : Y4) : zz20_X7 (zz20_k7 N m kX kO) p1 t2 out3 x4 below5 = zz20_a7 (zz20_R3 N m (zz20_E3 kX kO)) p1 t2 out3 x4 below5 := by kernel_rfl
theorem zz20_in7 (N : Nat) (m : Nat) (kX : St → Option (Y2 × Unit)) (kO : Nat → St → Option (Y2 × Unit)) (recF : Y2 → Y2 → Y2 → Int → Option (Y2 × Unit)) (hrec : zz20_R3 N m (zz20_E3 kX kO) = recF) (p1 : Y2) (t2 : Y2) (out3 : Y2) (x4 : Int) (below5 : Y4) (y6 : Int) : zz20_R7 N N (zz20_K7 N m kX kO) p1 t2 out3 x4 below5 y6 = zz20_F7 N recF (zz20_X3 kX) p1 t2 out3 x4 below5 y6 :=
  have h : zz20_X7 (zz20_k7 N m kX kO) = (zz20_a7 recF) := (funext fun p1 => (funext fun t2 => (funext fun out3 => (funext fun x4 => (funext fun below5 => (zz20_after7 N m kX kO p1 t2 out3 x4 below5).trans (by rw [hrec]))))))
  ((iter_ex (fun st => by kernel_rfl) (fun st => by kernel_rfl)).trans (zz20_iter7 N (zz20_k7 N m kX kO) (fun j st => (zz20_K7 N m kX kO) (.exit j) st) N p1 t2 out3 x4 below5 y6)).trans (congrArg (fun k => zz20_l7 N k N p1 t2 out3 x4 below5 y6) h)
theorem zz20_step3 (N : Nat) (m : Nat) (kX : St → Option (Y2 × Unit)) (kO : Nat → St → Option (Y2 × Unit)) (p1 : Y2) (t2 : Y2) (out3 : Y2) (x4 : Int) : zz20_R3 N (m + 1) (zz20_E3 kX kO) p1 t2 out3 x4 = zz20_b3 (zz20_R7 N N (zz20_K7 N m kX kO)) (zz20_X3 kX) p1 t2 out3 x4 := by kernel_rfl
theorem zz20_iter3 (N : Nat) (kX : St → Option (Y2 × Unit)) (kO : Nat → St → Option (Y2 × Unit)) : ∀ (n : Nat) (p1 : Y2) (t2 : Y2) (out3 : Y2) (x4 : Int), zz20_R3 N n (zz20_E3 kX kO) p1 t2 out3 x4 = zz20_l3 N (zz20_X3 kX) n p1 t2 out3 x4
  | 0, _, _, _, _ => rfl
  | m + 1, p1, t2, out3, x4 => by
    have hrec : zz20_R3 N m (zz20_E3 kX kO) = (zz20_l3 N (zz20_X3 kX) m) := (funext fun p1 => (funext fun t2 => (funext fun out3 => (funext fun x4 => zz20_iter3 N kX kO m p1 t2 out3 x4))))
    refine (zz20_step3 N m kX kO p1 t2 out3 x4).trans ?_
    rw [(funext fun p1 => (funext fun t2 => (funext fun out3 => (funext fun x4 => (funext fun below5 => (funext fun y6 => zz20_in7 N m kX kO (zz20_l3 N (zz20_X3 kX) m) hrec p1 t2 out3 x4 below5 y6))))))]
    rfl
noncomputable abbrev zz20_K3 (N : Nat) : Ex → St → Option (Y2 × Unit) := (blockK 0 (seqK ((A_zz20).shape 25) (run (A_zz20) N (codeAt Try.f107 [1, 1, 1])) zz20_z))
noncomputable abbrev zz20_k3 (N : Nat) : St → Option (Y2 × Unit) := fun st' => run (A_zz20) N (codeAt Try.f107 [1, 1, 1]) st' zz20_z
theorem zz20_after3 (N : Nat) (t2 : Y2) (out3 : Y2) : zz20_X3 (zz20_k3 N) t2 out3 = zz20_a3 t2 out3 := by kernel_rfl
theorem zz20_in3 (N : Nat) (p1 : Y2) (t2 : Y2) (out3 : Y2) (x4 : Int) : zz20_R3 N N (zz20_K3 N) p1 t2 out3 x4 = zz20_F3 N p1 t2 out3 x4 :=
  have h : zz20_X3 (zz20_k3 N) = (zz20_a3) := (funext fun t2 => (funext fun out3 => zz20_after3 N t2 out3))
  ((iter_ex (fun st => by kernel_rfl) (fun st => by kernel_rfl)).trans (zz20_iter3 N (zz20_k3 N) (fun j st => (zz20_K3 N) (.exit j) st) N p1 t2 out3 x4)).trans (congrArg (fun k => zz20_l3 N k N p1 t2 out3 x4) h)
theorem run0_zz20 (N : Nat) (x : (S_zz20).a.den) : runF (A_zz20) N Try.f107 S_zz20 x = (zz20_s (zz20_R3 N N (zz20_K3 N)) x.1) := by kernel_rfl
theorem run_zz20 (N : Nat) (x : (S_zz20).a.den) : runF (A_zz20) N Try.f107 S_zz20 x = zz20 N x.1 := by
  refine (run0_zz20 N x).trans ?_
  rw [(funext fun p1 => (funext fun t2 => (funext fun out3 => (funext fun x4 => zz20_in3 N p1 t2 out3 x4))))]
  rfl
theorem fn_zz20 : FnOk Try.prog 107 := ⟨_, Try.func107, by kernel_rfl, by kernel_rfl⟩
theorem good_zz20 : Gx.Good Try.prog 107 S_zz20 := good_of_run Try.func107 (of_decide_eq_true (by kernel_rfl)) fun x r h => ⟨A_zz20, big, mkCfg_ok tabOk, mkCfg_sigs (show SigsOk Try.prog [(128, S_zz19)] from ⟨⟨fn_zz19, good_zz19⟩, trivial⟩), (run_zz20 big x).trans h⟩

/-! zz21 -/
def zz21_b13 (rec : Y2 → Y4 → Int → Option (Int × Unit)) (k : Option (Int × Unit)) (p2 : Y2) (low5 : Y4) (i9 : Int) : Option (Int × Unit) :=
  cond (decide (i9 < (low5.length : Int)))
  ((atI low5 i9).bind fun _ =>
  (low5[i9.toNat]?).bind fun xq4 =>
  (atI p2.1 xq4).bind fun xq5 =>
  (zz17 big low5 xq5).bind fun rq6 =>
  cond rq6.1
  ((atI low5 i9).bind fun _ =>
  (low5[i9.toNat]?).bind fun xq7 =>
  some (xq7, (())))
  (rec p2 low5 (IntKind.i64.wrap (i9 + (1 : Int)))))
  (k)
def zz21_a13 : Option (Int × Unit) :=
  some ((-1 : Int), (()))
def zz21_b7 (rec : Y4 → Y2 → Y4 → Int → Bool → Int → Option (Int × Unit)) (k : Y4 → Y2 → Y4 → Int → Bool → Option (Int × Unit)) (some1 : Y4) (p2 : Y2) (low5 : Y4) (z6 : Int) (all7 : Bool) (i8 : Int) : Option (Int × Unit) :=
  cond (decide (i8 < (some1.length : Int)))
  (cond all7
  ((atI some1 i8).bind fun xq1 =>
  (zz19 p2 z6 xq1).bind fun rq2 =>
  rec some1 p2 low5 z6 rq2.1 (IntKind.i64.wrap (i8 + (1 : Int))))
  (rec some1 p2 low5 z6 false (IntKind.i64.wrap (i8 + (1 : Int)))))
  (k some1 p2 low5 z6 all7)
def zz21_a7 (rec : Y4 → Y2 → Y4 → Int → Option (Int × Unit)) (some1 : Y4) (p2 : Y2) (low5 : Y4) (z6 : Int) (all7 : Bool) : Option (Int × Unit) :=
  cond all7
  ((appI low5 [z6]).bind fun xq3 =>
  rec some1 p2 xq3 (IntKind.i64.wrap (z6 + (1 : Int))))
  (rec some1 p2 low5 (IntKind.i64.wrap (z6 + (1 : Int))))
def zz21_b3 (L7 : Y4 → Y2 → Y4 → Int → Bool → Int → Option (Int × Unit)) (k : Y2 → Y4 → Option (Int × Unit)) (some1 : Y4) (p2 : Y2) (low5 : Y4) (z6 : Int) : Option (Int × Unit) :=
  cond (decide (z6 < (p2.1.length : Int)))
  (L7 some1 p2 low5 z6 true (0 : Int))
  (k p2 low5)
def zz21_a3 (L13 : Y2 → Y4 → Int → Option (Int × Unit)) (p2 : Y2) (low5 : Y4) : Option (Int × Unit) :=
  L13 p2 low5 (0 : Int)
def zz21_s (L3 : Y4 → Y2 → Y4 → Int → Option (Int × Unit)) (p_0 : Y2) (some_1 : Y4) : Option (Int × Unit) :=
  L3 some_1 p_0 [] (0 : Int)
def zz21_l7 (N : Nat) (k : Y4 → Y2 → Y4 → Int → Bool → Option (Int × Unit)) : Nat → Y4 → Y2 → Y4 → Int → Bool → Int → Option (Int × Unit)
  | 0, _, _, _, _, _, _ => none
  | m + 1, some1, p2, low5, z6, all7, i8 => zz21_b7 (zz21_l7 N k m) k some1 p2 low5 z6 all7 i8
def zz21_F7 (N : Nat) (rec : Y4 → Y2 → Y4 → Int → Option (Int × Unit)) (k : Y2 → Y4 → Option (Int × Unit)) (some1 : Y4) (p2 : Y2) (low5 : Y4) (z6 : Int) (all7 : Bool) (i8 : Int) : Option (Int × Unit) := zz21_l7 N (zz21_a7 rec) N some1 p2 low5 z6 all7 i8
def zz21_l3 (N : Nat) (k : Y2 → Y4 → Option (Int × Unit)) : Nat → Y4 → Y2 → Y4 → Int → Option (Int × Unit)
  | 0, _, _, _, _ => none
  | m + 1, some1, p2, low5, z6 => zz21_b3 (zz21_F7 N (zz21_l3 N k m) k) k some1 p2 low5 z6
def zz21_l13 (N : Nat) (k : Option (Int × Unit)) : Nat → Y2 → Y4 → Int → Option (Int × Unit)
  | 0, _, _, _ => none
  | m + 1, p2, low5, i9 => zz21_b13 (zz21_l13 N k m) k p2 low5 i9
def zz21_F13 (N : Nat) (p2 : Y2) (low5 : Y4) (i9 : Int) : Option (Int × Unit) := zz21_l13 N (zz21_a13) N p2 low5 i9
def zz21_F3 (N : Nat) (some1 : Y4) (p2 : Y2) (low5 : Y4) (z6 : Int) : Option (Int × Unit) := zz21_l3 N (zz21_a3 (zz21_F13 N)) N some1 p2 low5 z6
def zz21 (N : Nat) (p_0 : Y2) (some_1 : Y4) : Option (Int × Unit) := zz21_s (zz21_F3 N) p_0 some_1
def S_zz21 : Sig := { a := (.pair (.pair (.sl (.sl I)) .unit) (.pair (.sl I) .unit)), md := [0, 0], mf := [], m := .unit, r := I, rf := .i, f := fun x => zz21 big x.1 x.2.1 }
def A_zz21 : Cfg := mkCfg tab [(128, S_zz19), (127, S_zz17)] [(6, [.drop, .as (.sl I) .i, .as (.ptr (.pair (.sl (.sl I)) .unit)) (.o .i), .drop, .drop, .as (.sl I) (.o .i), .as I .i]), (14, [.drop, .as (.sl I) .i, .as (.ptr (.pair (.sl (.sl I)) .unit)) (.o .i), .drop, .drop, .as (.sl I) (.o .i), .as I .i, .as .bool .i, .as I .i]), (25, [.drop, .drop, .as (.ptr (.pair (.sl (.sl I)) .unit)) (.o .i), .drop, .drop, .as (.sl I) (.o .i)]), (26, [.drop, .drop, .as (.ptr (.pair (.sl (.sl I)) .unit)) (.o .i), .drop, .drop, .as (.sl I) (.o .i), .drop, .drop, .drop, .as I .i]), (21, [.drop, .as (.sl I) .i, .as (.ptr (.pair (.sl (.sl I)) .unit)) (.o .i), .drop, .drop, .as (.sl I) (.o .i), .as I .i, .as .bool .i]), (35, [])]
noncomputable def zz21_R3 (N n : Nat) (K : Ex → St → Option (Int × Unit)) (some1 : Y4) (p2 : Y2) (low5 : Y4) (z6 : Int) : Option (Int × Unit) := iter ((A_zz21).shape 6) (run (A_zz21) N (codeAt Try.f108 [1, 1, 0, 1, 0, 0])) n ([.u, .val (.sl I) .i some1, .val (.ptr (.pair (.sl (.sl I)) .unit)) (.o .i) p2, .u, .u, .val (.sl I) (.o .i) low5, .val I .i z6] ++ List.replicate 52 .u) K
noncomputable def zz21_R7 (N n : Nat) (K : Ex → St → Option (Int × Unit)) (some1 : Y4) (p2 : Y2) (low5 : Y4) (z6 : Int) (all7 : Bool) (i8 : Int) : Option (Int × Unit) := iter ((A_zz21).shape 14) (run (A_zz21) N (codeAt Try.f108 [1, 1, 0, 1, 0, 0, 1, 0, 0, 1, 0, 1, 0, 0])) n ([.u, .val (.sl I) .i some1, .val (.ptr (.pair (.sl (.sl I)) .unit)) (.o .i) p2, .u, .u, .val (.sl I) (.o .i) low5, .val I .i z6, .val .bool .i all7, .val I .i i8] ++ List.replicate 50 .u) K
noncomputable def zz21_R13 (N n : Nat) (K : Ex → St → Option (Int × Unit)) (p2 : Y2) (low5 : Y4) (i9 : Int) : Option (Int × Unit) := iter ((A_zz21).shape 26) (run (A_zz21) N (codeAt Try.f108 [1, 1, 1, 0, 1, 0, 0])) n ([.u, .u, .val (.ptr (.pair (.sl (.sl I)) .unit)) (.o .i) p2, .u, .u, .val (.sl I) (.o .i) low5, .u, .u, .u, .val I .i i9] ++ List.replicate 49 .u) K
noncomputable abbrev zz21_z : Ex → St → Option (Int × Unit) := finish (A_zz21) S_zz21 Try.f108.results.toList
noncomputable abbrev zz21_X3 (kX : St → Option (Int × Unit)) : Y2 → Y4 → Option (Int × Unit) := fun (p2 : Y2) (low5 : Y4) => kX ([.u, .u, .val (.ptr (.pair (.sl (.sl I)) .unit)) (.o .i) p2, .u, .u, .val (.sl I) (.o .i) low5] ++ List.replicate 53 .u)
noncomputable abbrev zz21_E3 (kX : St → Option (Int × Unit)) (kO : Nat → St → Option (Int × Unit)) : Ex → St → Option (Int × Unit) := exK zz21_z 0 ((A_zz21).shape 25) kX kO
noncomputable abbrev zz21_X7 (kX : St → Option (Int × Unit)) : Y4 → Y2 → Y4 → Int → Bool → Option (Int × Unit) := fun (some1 : Y4) (p2 : Y2) (low5 : Y4) (z6 : Int) (all7 : Bool) => kX ([.u, .val (.sl I) .i some1, .val (.ptr (.pair (.sl (.sl I)) .unit)) (.o .i) p2, .u, .u, .val (.sl I) (.o .i) low5, .val I .i z6, .val .bool .i all7] ++ List.replicate 51 .u)
noncomputable abbrev zz21_E7 (kX : St → Option (Int × Unit)) (kO : Nat → St → Option (Int × Unit)) : Ex → St → Option (Int × Unit) := exK zz21_z 2 ((A_zz21).shape 21) kX kO
noncomputable abbrev zz21_X13 (kX : St → Option (Int × Unit)) : Option (Int × Unit) := kX ([] ++ List.replicate 59 .u)
noncomputable abbrev zz21_E13 (kX : St → Option (Int × Unit)) (kO : Nat → St → Option (Int × Unit)) : Ex → St → Option (Int × Unit) := exK zz21_z 4 ((A_zz21).shape 35) kX kO
theorem zz21_step7 (N : Nat) (m : Nat) (kX : St → Option (Int × Unit)) (kO : Nat → St → Option (Int × Unit)) (some1 : Y4) (p2 : Y2) (low5 : Y4) (z6 : Int) (all7 : Bool) (i8 : Int) : zz21_R7 N (m + 1) (zz21_E7 kX kO) some1 p2 low5 z6 all7 i8 = zz21_b7 (zz21_R7 N m (zz21_E7 kX kO)) (zz21_X7 kX) some1 p2 low5 z6 all7 i8 := by kernel_rfl
theorem zz21_iter7 (N : Nat) (kX : St → Option (Int × Unit)) (kO : Nat → St → Option (Int × Unit)) : ∀ (n : Nat) (some1 : Y4) (p2 : Y2) (low5 : Y4) (z6 : Int) (all7 : Bool) (i8 : Int), zz21_R7 N n (zz21_E7 kX kO) some1 p2 low5 z6 all7 i8 = zz21_l7 N (zz21_X7 kX) n some1 p2 low5 z6 all7 i8
  | 0, _, _, _, _, _, _ => rfl
  | m + 1, some1, p2, low5, z6, all7, i8 => by
    have hrec : zz21_R7 N m (zz21_E7 kX kO) = (zz21_l7 N (zz21_X7 kX) m) := (funext fun some1 => (funext fun p2 => (funext fun low5 => (funext fun z6 => (funext fun all7 => (funext fun i8 => zz21_iter7 N kX kO m some1 p2 low5 z6 all7 i8))))))
    refine (zz21_step7 N m kX kO some1 p2 low5 z6 all7 i8).trans ?_
    rw [hrec]
    rfl
noncomputable abbrev zz21_K7 (N : Nat) (m : Nat) (kX : St → Option (Int × Unit)) (kO : Nat → St → Option (Int × Unit)) : Ex → St → Option (Int × Unit) := (blockK 2 (seqK ((A_zz21).shape 21) (run (A_zz21) N (codeAt Try.f108 [1, 1, 0, 1, 0, 0, 1, 0, 0, 1, 1])) (blockK 1 (seqK ((A_zz21).shape 9) (run (A_zz21) N (codeAt Try.f108 [1, 1, 0, 1, 0, 0, 1, 1])) (iterK ((A_zz21).shape 6) (run (A_zz21) N (codeAt Try.f108 [1, 1, 0, 1, 0, 0])) m (zz21_E3 kX kO))))))
noncomputable abbrev zz21_k7 (N : Nat) (m : Nat) (kX : St → Option (Int × Unit)) (kO : Nat → St → Option (Int × Unit)) : St → Option (Int × Unit) := fun st' => run (A_zz21) N (codeAt Try.f108 [1, 1, 0, 1, 0, 0, 1, 0, 0, 1, 1]) st' (blockK 1 (seqK ((A_zz21).shape 9) (run (A_zz21) N (codeAt Try.f108 [1, 1, 0, 1, 0, 0, 1, 1])) (iterK ((A_zz21).shape 6) (run (A_zz21) N (codeAt Try.f108 [1, 1, 0, 1, 0, 0])) m (zz21_E3 kX kO))))
theorem zz21_after7 (N : Nat) (m : Nat) (kX : St → Option (Int × Unit)) (kO : Nat → St → Option (Int × Unit)) (some1 : Y4) (p2 : Y2) (low5 : Y4) (z6 : Int) (all7 : Bool) : zz21_X7 (zz21_k7 N m kX kO) some1 p2 low5 z6 all7 = zz21_a7 (zz21_R3 N m (zz21_E3 kX kO)) some1 p2 low5 z6 all7 := by kernel_rfl
theorem zz21_in7 (N : Nat) (m : Nat) (kX : St → Option (Int × Unit)) (kO : Nat → St → Option (Int × Unit)) (recF : Y4 → Y2 → Y4 → Int → Option (Int × Unit)) (hrec : zz21_R3 N m (zz21_E3 kX kO) = recF) (some1 : Y4) (p2 : Y2) (low5 : Y4) (z6 : Int) (all7 : Bool) (i8 : Int) : zz21_R7 N N (zz21_K7 N m kX kO) some1 p2 low5 z6 all7 i8 = zz21_F7 N recF (zz21_X3 kX) some1 p2 low5 z6 all7 i8 :=
  have h : zz21_X7 (zz21_k7 N m kX kO) = (zz21_a7 recF) := (funext fun some1 => (funext fun p2 => (funext fun low5 => (funext fun z6 => (funext fun all7 => (zz21_after7 N m kX kO some1 p2 low5 z6 all7).trans (by rw [hrec]))))))
  ((iter_ex (fun st => by kernel_rfl) (fun st => by kernel_rfl)).trans (zz21_iter7 N (zz21_k7 N m kX kO) (fun j st => (zz21_K7 N m kX kO) (.exit j) st) N some1 p2 low5 z6 all7 i8)).trans (congrArg (fun k => zz21_l7 N k N some1 p2 low5 z6 all7 i8) h)
theorem zz21_step3 (N : Nat) (m : Nat) (kX : St → Option (Int × Unit)) (kO : Nat → St → Option (Int × Unit)) (some1 : Y4) (p2 : Y2) (low5 : Y4) (z6 : Int) : zz21_R3 N (m + 1) (zz21_E3 kX kO) some1 p2 low5 z6 = zz21_b3 (zz21_R7 N N (zz21_K7 N m kX kO)) (zz21_X3 kX) some1 p2 low5 z6 := by kernel_rfl
theorem zz21_iter3 (N : Nat) (kX : St → Option (Int × Unit)) (kO : Nat → St → Option (Int × Unit)) : ∀ (n : Nat) (some1 : Y4) (p2 : Y2) (low5 : Y4) (z6 : Int), zz21_R3 N n (zz21_E3 kX kO) some1 p2 low5 z6 = zz21_l3 N (zz21_X3 kX) n some1 p2 low5 z6
  | 0, _, _, _, _ => rfl
  | m + 1, some1, p2, low5, z6 => by
    have hrec : zz21_R3 N m (zz21_E3 kX kO) = (zz21_l3 N (zz21_X3 kX) m) := (funext fun some1 => (funext fun p2 => (funext fun low5 => (funext fun z6 => zz21_iter3 N kX kO m some1 p2 low5 z6))))
    refine (zz21_step3 N m kX kO some1 p2 low5 z6).trans ?_
    rw [(funext fun some1 => (funext fun p2 => (funext fun low5 => (funext fun z6 => (funext fun all7 => (funext fun i8 => zz21_in7 N m kX kO (zz21_l3 N (zz21_X3 kX) m) hrec some1 p2 low5 z6 all7 i8))))))]
    rfl
noncomputable abbrev zz21_K3 (N : Nat) : Ex → St → Option (Int × Unit) := (blockK 0 (seqK ((A_zz21).shape 25) (run (A_zz21) N (codeAt Try.f108 [1, 1, 1])) zz21_z))
theorem zz21_step13 (N : Nat) (m : Nat) (kX : St → Option (Int × Unit)) (kO : Nat → St → Option (Int × Unit)) (p2 : Y2) (low5 : Y4) (i9 : Int) : zz21_R13 N (m + 1) (zz21_E13 kX kO) p2 low5 i9 = zz21_b13 (zz21_R13 N m (zz21_E13 kX kO)) (zz21_X13 kX) p2 low5 i9 := by kernel_rfl
theorem zz21_iter13 (N : Nat) (kX : St → Option (Int × Unit)) (kO : Nat → St → Option (Int × Unit)) : ∀ (n : Nat) (p2 : Y2) (low5 : Y4) (i9 : Int), zz21_R13 N n (zz21_E13 kX kO) p2 low5 i9 = zz21_l13 N (zz21_X13 kX) n p2 low5 i9
  | 0, _, _, _ => rfl
  | m + 1, p2, low5, i9 => by
    have hrec : zz21_R13 N m (zz21_E13 kX kO) = (zz21_l13 N (zz21_X13 kX) m) := (funext fun p2 => (funext fun low5 => (funext fun i9 => zz21_iter13 N kX kO m p2 low5 i9)))
    refine (zz21_step13 N m kX kO p2 low5 i9).trans ?_
    rw [hrec]
    rfl
noncomputable abbrev zz21_K13 (N : Nat) : Ex → St → Option (Int × Unit) := (blockK 4 (seqK ((A_zz21).shape 35) (run (A_zz21) N (codeAt Try.f108 [1, 1, 1, 1])) zz21_z))
noncomputable abbrev zz21_k13 (N : Nat) : St → Option (Int × Unit) := fun st' => run (A_zz21) N (codeAt Try.f108 [1, 1, 1, 1]) st' zz21_z
theorem zz21_after13 (N : Nat) : zz21_X13 (zz21_k13 N) = zz21_a13 := by kernel_rfl
theorem zz21_in13 (N : Nat) (p2 : Y2) (low5 : Y4) (i9 : Int) : zz21_R13 N N (zz21_K13 N) p2 low5 i9 = zz21_F13 N p2 low5 i9 :=
  have h : zz21_X13 (zz21_k13 N) = (zz21_a13) := zz21_after13 N
  ((iter_ex (fun st => by kernel_rfl) (fun st => by kernel_rfl)).trans (zz21_iter13 N (zz21_k13 N) (fun j st => (zz21_K13 N) (.exit j) st) N p2 low5 i9)).trans (congrArg (fun k => zz21_l13 N k N p2 low5 i9) h)
noncomputable abbrev zz21_k3 (N : Nat) : St → Option (Int × Unit) := fun st' => run (A_zz21) N (codeAt Try.f108 [1, 1, 1]) st' zz21_z
theorem zz21_after3 (N : Nat) (p2 : Y2) (low5 : Y4) : zz21_X3 (zz21_k3 N) p2 low5 = zz21_a3 (zz21_R13 N N (zz21_K13 N)) p2 low5 := by kernel_rfl
theorem zz21_in3 (N : Nat) (some1 : Y4) (p2 : Y2) (low5 : Y4) (z6 : Int) : zz21_R3 N N (zz21_K3 N) some1 p2 low5 z6 = zz21_F3 N some1 p2 low5 z6 :=
  have h : zz21_X3 (zz21_k3 N) = (zz21_a3 (zz21_F13 N)) := (funext fun p2 => (funext fun low5 => (zz21_after3 N p2 low5).trans (by rw [(funext fun p2 => (funext fun low5 => (funext fun i9 => zz21_in13 N p2 low5 i9)))])))
  ((iter_ex (fun st => by kernel_rfl) (fun st => by kernel_rfl)).trans (zz21_iter3 N (zz21_k3 N) (fun j st => (zz21_K3 N) (.exit j) st) N some1 p2 low5 z6)).trans (congrArg (fun k => zz21_l3 N k N some1 p2 low5 z6) h)
theorem run0_zz21 (N : Nat) (x : (S_zz21).a.den) : runF (A_zz21) N Try.f108 S_zz21 x = (zz21_s (zz21_R3 N N (zz21_K3 N)) x.1 x.2.1) := by kernel_rfl
theorem run_zz21 (N : Nat) (x : (S_zz21).a.den) : runF (A_zz21) N Try.f108 S_zz21 x = zz21 N x.1 x.2.1 := by
  refine (run0_zz21 N x).trans ?_
  rw [(funext fun some1 => (funext fun p2 => (funext fun low5 => (funext fun z6 => zz21_in3 N some1 p2 low5 z6))))]
  rfl
theorem fn_zz21 : FnOk Try.prog 108 := ⟨_, Try.func108, by kernel_rfl, by kernel_rfl⟩
theorem good_zz21 : Gx.Good Try.prog 108 S_zz21 := good_of_run Try.func108 (of_decide_eq_true (by kernel_rfl)) fun x r h => ⟨A_zz21, big, mkCfg_ok tabOk, mkCfg_sigs (show SigsOk Try.prog [(128, S_zz19), (127, S_zz17)] from ⟨⟨fn_zz19, good_zz19⟩, ⟨fn_zz17, good_zz17⟩, trivial⟩), (run_zz21 big x).trans h⟩

/-! zz22 -/
def zz22_b8 (rec : Y2 → Y2 → Int → Int → Option (Bool × Unit)) (k : Y2 → Y2 → Int → Option (Bool × Unit)) (p1 : Y2) (dual3 : Y2) (x4 : Int) (y5 : Int) : Option (Bool × Unit) :=
  cond (decide (y5 < x4))
  ((zz21 big p1 [x4, y5]).bind fun rq3 =>
  cond (decide (rq3.1 < (0 : Int)))
  (some (false, (())))
  ((zz21 big dual3 [x4, y5]).bind fun rq4 =>
  cond (decide (rq4.1 < (0 : Int)))
  (some (false, (())))
  (rec p1 dual3 x4 (IntKind.i64.wrap (y5 + (1 : Int))))))
  (k p1 dual3 x4)
def zz22_a8 (rec : Y2 → Y2 → Int → Option (Bool × Unit)) (p1 : Y2) (dual3 : Y2) (x4 : Int) : Option (Bool × Unit) :=
  rec p1 dual3 (IntKind.i64.wrap (x4 + (1 : Int)))
def zz22_b5 (L8 : Y2 → Y2 → Int → Int → Option (Bool × Unit)) (k : Option (Bool × Unit)) (p1 : Y2) (dual3 : Y2) (x4 : Int) : Option (Bool × Unit) :=
  cond (decide (x4 < (p1.1.length : Int)))
  (L8 p1 dual3 x4 (0 : Int))
  (k)
def zz22_a5 : Option (Bool × Unit) :=
  some (true, (()))
def zz22_s (L5 : Y2 → Y2 → Int → Option (Bool × Unit)) (p_0 : Y2) : Option (Bool × Unit) :=
  (zz18 big p_0).bind fun rq1 =>
  cond (!rq1.1)
  (some (false, (())))
  (cond (decide ((p_0.1.length : Int) = (0 : Int)))
  (some (false, (())))
  ((zz20 big p_0).bind fun rq2 =>
  L5 p_0 rq2.1 (0 : Int)))
def zz22_l8 (N : Nat) (k : Y2 → Y2 → Int → Option (Bool × Unit)) : Nat → Y2 → Y2 → Int → Int → Option (Bool × Unit)
  | 0, _, _, _, _ => none
  | m + 1, p1, dual3, x4, y5 => zz22_b8 (zz22_l8 N k m) k p1 dual3 x4 y5
def zz22_F8 (N : Nat) (rec : Y2 → Y2 → Int → Option (Bool × Unit)) (k : Option (Bool × Unit)) (p1 : Y2) (dual3 : Y2) (x4 : Int) (y5 : Int) : Option (Bool × Unit) := zz22_l8 N (zz22_a8 rec) N p1 dual3 x4 y5
def zz22_l5 (N : Nat) (k : Option (Bool × Unit)) : Nat → Y2 → Y2 → Int → Option (Bool × Unit)
  | 0, _, _, _ => none
  | m + 1, p1, dual3, x4 => zz22_b5 (zz22_F8 N (zz22_l5 N k m) k) k p1 dual3 x4
def zz22_F5 (N : Nat) (p1 : Y2) (dual3 : Y2) (x4 : Int) : Option (Bool × Unit) := zz22_l5 N (zz22_a5) N p1 dual3 x4
def zz22 (N : Nat) (p_0 : Y2) : Option (Bool × Unit) := zz22_s (zz22_F5 N) p_0
def S_zz22 : Sig := { a := (.pair (.pair (.sl (.sl I)) .unit) .unit), md := [0], mf := [], m := .unit, r := .bool, rf := .i, f := fun x => zz22 big x.1 }
def A_zz22 : Cfg := mkCfg tab [(106, S_zz18), (107, S_zz20), (108, S_zz21)] [(10, [.drop, .as (.ptr (.pair (.sl (.sl I)) .unit)) (.o .i), .drop, .as (.ptr (.pair (.sl (.sl I)) .unit)) (.o (.p (.o (.o .i)) .i)), .as I .i]), (16, [.drop, .as (.ptr (.pair (.sl (.sl I)) .unit)) (.o .i), .drop, .as (.ptr (.pair (.sl (.sl I)) .unit)) (.o (.p (.o (.o .i)) .i)), .as I .i, .as I .i]), (25, []), (13, [.drop, .as (.ptr (.pair (.sl (.sl I)) .unit)) (.o .i), .drop, .as (.ptr (.pair (.sl (.sl I)) .unit)) (.o (.p (.o (.o .i)) .i)), .as I .i])]
noncomputable def zz22_R5 (N n : Nat) (K : Ex → St → Option (Bool × Unit)) (p1 : Y2) (dual3 : Y2) (x4 : Int) : Option (Bool × Unit) := iter ((A_zz22).shape 10) (run (A_zz22) N (codeAt Try.f81 [1, 1, 1, 0, 1, 0, 0])) n ([.u, .val (.ptr (.pair (.sl (.sl I)) .unit)) (.o .i) p1, .u, .val (.ptr (.pair (.sl (.sl I)) .unit)) (.o (.p (.o (.o .i)) .i)) dual3, .val I .i x4] ++ List.replicate 38 .u) K
noncomputable def zz22_R8 (N n : Nat) (K : Ex → St → Option (Bool × Unit)) (p1 : Y2) (dual3 : Y2) (x4 : Int) (y5 : Int) : Option (Bool × Unit) := iter ((A_zz22).shape 16) (run (A_zz22) N (codeAt Try.f81 [1, 1, 1, 0, 1, 0, 0, 1, 0, 0, 1, 0, 0])) n ([.u, .val (.ptr (.pair (.sl (.sl I)) .unit)) (.o .i) p1, .u, .val (.ptr (.pair (.sl (.sl I)) .unit)) (.o (.p (.o (.o .i)) .i)) dual3, .val I .i x4, .val I .i y5] ++ List.replicate 37 .u) K
noncomputable abbrev zz22_z : Ex → St → Option (Bool × Unit) := finish (A_zz22) S_zz22 Try.f81.results.toList
noncomputable abbrev zz22_X5 (kX : St → Option (Bool × Unit)) : Option (Bool × Unit) := kX ([] ++ List.replicate 43 .u)
noncomputable abbrev zz22_E5 (kX : St → Option (Bool × Unit)) (kO : Nat → St → Option (Bool × Unit)) : Ex → St → Option (Bool × Unit) := exK zz22_z 0 ((A_zz22).shape 25) kX kO
noncomputable abbrev zz22_X8 (kX : St → Option (Bool × Unit)) : Y2 → Y2 → Int → Option (Bool × Unit) := fun (p1 : Y2) (dual3 : Y2) (x4 : Int) => kX ([.u, .val (.ptr (.pair (.sl (.sl I)) .unit)) (.o .i) p1, .u, .val (.ptr (.pair (.sl (.sl I)) .unit)) (.o (.p (.o (.o .i)) .i)) dual3, .val I .i x4] ++ List.replicate 38 .u)
noncomputable abbrev zz22_E8 (kX : St → Option (Bool × Unit)) (kO : Nat → St → Option (Bool × Unit)) : Ex → St → Option (Bool × Unit) := exK zz22_z 2 ((A_zz22).shape 13) kX kO
theorem zz22_step8 (N : Nat) (m : Nat) (kX : St → Option (Bool × Unit)) (kO : Nat → St → Option (Bool × Unit)) (p1 : Y2) (dual3 : Y2) (x4 : Int) (y5 : Int) : zz22_R8 N (m + 1) (zz22_E8 kX kO) p1 dual3 x4 y5 = zz22_b8 (zz22_R8 N m (zz22_E8 kX kO)) (zz22_X8 kX) p1 dual3 x4 y5 := by kernel_rfl
theorem zz22_iter8 (N : Nat) (kX : St → Option (Bool × Unit)) (kO : Nat → St → Option (Bool × Unit)) : ∀ (n : Nat) (p1 : Y2) (dual3 : Y2) (x4 : Int) (y5 : Int), zz22_R8 N n (zz22_E8 kX kO) p1 dual3 x4 y5 = zz22_l8 N (zz22_X8 kX) n p1 dual3 x4 y5
  | 0, _, _, _, _ => rfl
  | m + 1, p1, dual3, x4, y5 => by
    have hrec : zz22_R8 N m (zz22_E8 kX kO) = (zz22_l8 N (zz22_X8 kX) m) := (funext fun p1 => (funext fun dual3 => (funext fun x4 => (funext fun y5 => zz22_iter8 N kX kO m p1 dual3 x4 y5))))
    refine (zz22_step8 N m kX kO p1 dual3 x4 y5).trans ?_
    rw [hrec]
    rfl
noncomputable abbrev zz22_K8 (N : Nat) (m : Nat) (kX : St → Option (Bool × Unit)) (kO : Nat → St → Option (Bool × Unit)) : Ex → St → Option (Bool × Unit) := (blockK 2 (blockK 1 (seqK ((A_zz22).shape 13) (run (A_zz22) N (codeAt Try.f81 [1, 1, 1, 0, 1, 0, 0, 1, 1])) (iterK ((A_zz22).shape 10) (run (A_zz22) N (codeAt Try.f81 [1, 1, 1, 0, 1, 0, 0])) m (zz22_E5 kX kO)))))
noncomputable abbrev zz22_k8 (N : Nat) (m : Nat) (kX : St → Option (Bool × Unit)) (kO : Nat → St → Option (Bool × Unit)) : St → Option (Bool × Unit) := fun st' => run (A_zz22) N (codeAt Try.f81 [1, 1, 1, 0, 1, 0, 0, 1, 1]) st' (iterK ((A_zz22).shape 10) (run (A_zz22) N (codeAt Try.f81 [1, 1, 1, 0, 1, 0, 0])) m (zz22_E5 kX kO))
theorem zz22_after8 (N : Nat) (m : Nat) (kX : St → Option (Bool × Unit)) (kO : Nat → St → Option (Bool × Unit)) (p1 : Y2) (dual3 : Y2) (x4 : Int) : zz22_X8 (zz22_k8 N m kX kO) p1 dual3 x4 = zz22_a8 (zz22_R5 N m (zz22_E5 kX kO)) p1 dual3 x4 := by kernel_rfl
theorem zz22_in8 (N : Nat) (m : Nat) (kX : St → Option (Bool × Unit)) (kO : Nat → St → Option (Bool × Unit)) (recF : Y2 → Y2 → Int → Option (Bool × Unit)) (hrec : zz22_R5 N m (zz22_E5 kX kO) = recF) (p1 : Y2) (dual3 : Y2) (x4 : Int) (y5 : Int) : zz22_R8 N N (zz22_K8 N m kX kO) p1 dual3 x4 y5 = zz22_F8 N recF (zz22_X5 kX) p1 dual3 x4 y5 :=
  have h : zz22_X8 (zz22_k8 N m kX kO) = (zz22_a8 recF) := (funext fun p1 => (funext fun dual3 => (funext fun x4 => (zz22_after8 N m kX kO p1 dual3 x4).trans (by rw [hrec]))))
  ((iter_ex (fun st => by kernel_rfl) (fun st => by kernel_rfl)).trans (zz22_iter8 N (zz22_k8 N m kX kO) (fun j st => (zz22_K8 N m kX kO) (.exit j) st) N p1 dual3 x4 y5)).trans (congrArg (fun k => zz22_l8 N k N p1 dual3 x4 y5) h)
theorem zz22_step5 (N : Nat) (m : Nat) (kX : St → Option (Bool × Unit)) (kO : Nat → St → Option (Bool × Unit)) (p1 : Y2) (dual3 : Y2) (x4 : Int) : zz22_R5 N (m + 1) (zz22_E5 kX kO) p1 dual3 x4 = zz22_b5 (zz22_R8 N N (zz22_K8 N m kX kO)) (zz22_X5 kX) p1 dual3 x4 := by kernel_rfl
theorem zz22_iter5 (N : Nat) (kX : St → Option (Bool × Unit)) (kO : Nat → St → Option (Bool × Unit)) : ∀ (n : Nat) (p1 : Y2) (dual3 : Y2) (x4 : Int), zz22_R5 N n (zz22_E5 kX kO) p1 dual3 x4 = zz22_l5 N (zz22_X5 kX) n p1 dual3 x4
  | 0, _, _, _ => rfl
  | m + 1, p1, dual3, x4 => by
    have hrec : zz22_R5 N m (zz22_E5 kX kO) = (zz22_l5 N (zz22_X5 kX) m) := (funext fun p1 => (funext fun dual3 => (funext fun x4 => zz22_iter5 N kX kO m p1 dual3 x4)))
    refine (zz22_step5 N m kX kO p1 dual3 x4).trans ?_
    rw [(funext fun p1 => (funext fun dual3 => (funext fun x4 => (funext fun y5 => zz22_in8 N m kX kO (zz22_l5 N (zz22_X5 kX) m) hrec p1 dual3 x4 y5))))]
    rfl
noncomputable abbrev zz22_K5 (N : Nat) : Ex → St → Option (Bool × Unit) := (blockK 0 (seqK ((A_zz22).shape 25) (run (A_zz22) N (codeAt Try.f81 [1, 1, 1, 1])) zz22_z))
noncomputable abbrev zz22_k5 (N : Nat) : St → Option (Bool × Unit) := fun st' => run (A_zz22) N (codeAt Try.f81 [1, 1, 1, 1]) st' zz22_z
theorem zz22_after5 (N : Nat) : zz22_X5 (zz22_k5 N) = zz22_a5 := by kernel_rfl
theorem zz22_in5 (N : Nat) (p1 : Y2) (dual3 : Y2) (x4 : Int) : zz22_R5 N N (zz22_K5 N) p1 dual3 x4 = zz22_F5 N p1 dual3 x4 :=
  have h : zz22_X5 (zz22_k5 N) = (zz22_a5) := zz22_after5 N
  ((iter_ex (fun st => by kernel_rfl) (fun st => by kernel_rfl)).trans (zz22_iter5 N (zz22_k5 N) (fun j st => (zz22_K5 N) (.exit j) st) N p1 dual3 x4)).trans (congrArg (fun k => zz22_l5 N k N p1 dual3 x4) h)
theorem run0_zz22 (N : Nat) (x : (S_zz22).a.den) : runF (A_zz22) N Try.f81 S_zz22 x = (zz22_s (zz22_R5 N N (zz22_K5 N)) x.1) := by kernel_rfl
theorem run_zz22 (N : Nat) (x : (S_zz22).a.den) : runF (A_zz22) N Try.f81 S_zz22 x = zz22 N x.1 := by
  refine (run0_zz22 N x).trans ?_
  rw [(funext fun p1 => (funext fun dual3 => (funext fun x4 => zz22_in5 N p1 dual3 x4)))]
  rfl
theorem fn_zz22 : FnOk Try.prog 81 := ⟨_, Try.func81, by kernel_rfl, by kernel_rfl⟩
theorem good_zz22 : Gx.Good Try.prog 81 S_zz22 := good_of_run Try.func81 (of_decide_eq_true (by kernel_rfl)) fun x r h => ⟨A_zz22, big, mkCfg_ok tabOk, mkCfg_sigs (show SigsOk Try.prog [(106, S_zz18), (107, S_zz20), (108, S_zz21)] from ⟨⟨fn_zz18, good_zz18⟩, ⟨fn_zz20, good_zz20⟩, ⟨fn_zz21, good_zz21⟩, trivial⟩), (run_zz22 big x).trans h⟩

/-! zz23 -/
def zz23_s (p_0 : Y2) (x_1 : Int) (y_2 : Int) : Option (Int × Unit) :=
  (zz20 big p_0).bind fun rq1 =>
  (zz21 big rq1.1 [x_1, y_2]).bind fun rq2 =>
  some (rq2.1, (()))
def zz23 (p_0 : Y2) (x_1 : Int) (y_2 : Int) : Option (Int × Unit) := zz23_s p_0 x_1 y_2
def S_zz23 : Sig := { a := (.pair (.pair (.sl (.sl I)) .unit) (.pair I (.pair I .unit))), md := [0, 0, 0], mf := [], m := .unit, r := I, rf := .i, f := fun x => zz23 x.1 x.2.1 x.2.2.1 }
def A_zz23 : Cfg := mkCfg tab [(107, S_zz20), (108, S_zz21)] []
theorem run_zz23 (N : Nat) (x : (S_zz23).a.den) : runF (A_zz23) N Try.f84 S_zz23 x = zz23 x.1 x.2.1 x.2.2.1 := by kernel_rfl
theorem fn_zz23 : FnOk Try.prog 84 := ⟨_, Try.func84, by kernel_rfl, by kernel_rfl⟩
theorem good_zz23 : Gx.Good Try.prog 84 S_zz23 := good_of_run Try.func84 (of_decide_eq_true (by kernel_rfl)) fun x r h => ⟨A_zz23, big, mkCfg_ok tabOk, mkCfg_sigs (show SigsOk Try.prog [(107, S_zz20), (108, S_zz21)] from ⟨⟨fn_zz20, good_zz20⟩, ⟨fn_zz21, good_zz21⟩, trivial⟩), (run_zz23 big x).trans h⟩

/-! zz24 -/
def zz24_s (p_0 : Y2) (x_1 : Int) (y_2 : Int) : Option (Int × Unit) :=
  (zz21 big p_0 [x_1, y_2]).bind fun rq1 =>
  some (rq1.1, (()))
def zz24 (p_0 : Y2) (x_1 : Int) (y_2 : Int) : Option (Int × Unit) := zz24_s p_0 x_1 y_2
def S_zz24 : Sig := { a := (.pair (.pair (.sl (.sl I)) .unit) (.pair I (.pair I .unit))), md := [0, 0, 0], mf := [], m := .unit, r := I, rf := .i, f := fun x => zz24 x.1 x.2.1 x.2.2.1 }
def A_zz24 : Cfg := mkCfg tab [(108, S_zz21)] []
theorem run_zz24 (N : Nat) (x : (S_zz24).a.den) : runF (A_zz24) N Try.f85 S_zz24 x = zz24 x.1 x.2.1 x.2.2.1 := by kernel_rfl
theorem fn_zz24 : FnOk Try.prog 85 := ⟨_, Try.func85, by kernel_rfl, by kernel_rfl⟩
theorem good_zz24 : Gx.Good Try.prog 85 S_zz24 := good_of_run Try.func85 (of_decide_eq_true (by kernel_rfl)) fun x r h => ⟨A_zz24, big, mkCfg_ok tabOk, mkCfg_sigs (show SigsOk Try.prog [(108, S_zz21)] from ⟨⟨fn_zz21, good_zz21⟩, trivial⟩), (run_zz24 big x).trans h⟩

/-! zz25 -/
def zz25_b9 (rec : Y2 → Int → Int → Int → Int → Option ((Y4 × (Bool × Unit)) × Unit)) (k : Y2 → Int → Int → Int → Option ((Y4 × (Bool × Unit)) × Unit)) (p1 : Y2) (n4 : Int) (x5 : Int) (y6 : Int) (z7 : Int) : Option ((Y4 × (Bool × Unit)) × Unit) :=
  cond (decide (z7 < n4))
  ((zz23 p1 y6 z7).bind fun rq1 =>
  (zz24 p1 x5 rq1.1).bind fun rq2 =>
  (zz24 p1 x5 y6).bind fun rq3 =>
  (zz24 p1 x5 z7).bind fun rq4 =>
  (zz23 p1 rq3.1 rq4.1).bind fun rq5 =>
  cond (decide (rq2.1 ≠ rq5.1))
  (some (([x5, y6, z7], true, ()), (())))
  (rec p1 n4 x5 y6 (IntKind.i64.wrap (z7 + (1 : Int)))))
  (k p1 n4 x5 y6)
def zz25_a9 (rec : Y2 → Int → Int → Int → Option ((Y4 × (Bool × Unit)) × Unit)) (p1 : Y2) (n4 : Int) (x5 : Int) (y6 : Int) : Option ((Y4 × (Bool × Unit)) × Unit) :=
  rec p1 n4 x5 (IntKind.i64.wrap (y6 + (1 : Int)))
def zz25_b6 (L9 : Y2 → Int → Int → Int → Int → Option ((Y4 × (Bool × Unit)) × Unit)) (k : Y2 → Int → Int → Option ((Y4 × (Bool × Unit)) × Unit)) (p1 : Y2) (n4 : Int) (x5 : Int) (y6 : Int) : Option ((Y4 × (Bool × Unit)) × Unit) :=
  cond (decide (y6 < n4))
  (L9 p1 n4 x5 y6 (0 : Int))
  (k p1 n4 x5)
def zz25_a6 (rec : Y2 → Int → Int → Option ((Y4 × (Bool × Unit)) × Unit)) (p1 : Y2) (n4 : Int) (x5 : Int) : Option ((Y4 × (Bool × Unit)) × Unit) :=
  rec p1 n4 (IntKind.i64.wrap (x5 + (1 : Int)))
def zz25_b3 (L6 : Y2 → Int → Int → Int → Option ((Y4 × (Bool × Unit)) × Unit)) (k : Option ((Y4 × (Bool × Unit)) × Unit)) (p1 : Y2) (n4 : Int) (x5 : Int) : Option ((Y4 × (Bool × Unit)) × Unit) :=
  cond (decide (x5 < n4))
  (L6 p1 n4 x5 (0 : Int))
  (k)
def zz25_a3 : Option ((Y4 × (Bool × Unit)) × Unit) :=
  some (([], false, ()), (()))
def zz25_s (L3 : Y2 → Int → Int → Option ((Y4 × (Bool × Unit)) × Unit)) (p_0 : Y2) : Option ((Y4 × (Bool × Unit)) × Unit) :=
  L3 p_0 (p_0.1.length : Int) (0 : Int)
def zz25_l9 (N : Nat) (k : Y2 → Int → Int → Int → Option ((Y4 × (Bool × Unit)) × Unit)) : Nat → Y2 → Int → Int → Int → Int → Option ((Y4 × (Bool × Unit)) × Unit)
  | 0, _, _, _, _, _ => none
  | m + 1, p1, n4, x5, y6, z7 => zz25_b9 (zz25_l9 N k m) k p1 n4 x5 y6 z7
def zz25_F9 (N : Nat) (rec : Y2 → Int → Int → Int → Option ((Y4 × (Bool × Unit)) × Unit)) (k : Y2 → Int → Int → Option ((Y4 × (Bool × Unit)) × Unit)) (p1 : Y2) (n4 : Int) (x5 : Int) (y6 : Int) (z7 : Int) : Option ((Y4 × (Bool × Unit)) × Unit) := zz25_l9 N (zz25_a9 rec) N p1 n4 x5 y6 z7
def zz25_l6 (N : Nat) (k : Y2 → Int → Int → Option ((Y4 × (Bool × Unit)) × Unit)) : Nat → Y2 → Int → Int → Int → Option ((Y4 × (Bool × Unit)) × Unit)
  | 0, _, _, _, _ => none
  | m + 1, p1, n4, x5, y6 => zz25_b6 (zz25_F9 N (zz25_l6 N k m) k) k p1 n4 x5 y6
def zz25_F6 (N : Nat) (rec : Y2 → Int → Int → Option ((Y4 × (Bool × Unit)) × Unit)) (k : Option ((Y4 × (Bool × Unit)) × Unit)) (p1 : Y2) (n4 : Int) (x5 : Int) (y6 : Int) : Option ((Y4 × (Bool × Unit)) × Unit) := zz25_l6 N (zz25_a6 rec) N p1 n4 x5 y6
def zz25_l3 (N : Nat) (k : Option ((Y4 × (Bool × Unit)) × Unit)) : Nat → Y2 → Int → Int → Option ((Y4 × (Bool × Unit)) × Unit)
  | 0, _, _, _ => none
  | m + 1, p1, n4, x5 => zz25_b3 (zz25_F6 N (zz25_l3 N k m) k) k p1 n4 x5
def zz25_F3 (N : Nat) (p1 : Y2) (n4 : Int) (x5 : Int) : Option ((Y4 × (Bool × Unit)) × Unit) := zz25_l3 N (zz25_a3) N p1 n4 x5
def zz25 (N : Nat) (p_0 : Y2) : Option ((Y4 × (Bool × Unit)) × Unit) := zz25_s (zz25_F3 N) p_0
def S_zz25 : Sig := { a := (.pair (.pair (.sl (.sl I)) .unit) .unit), md := [0], mf := [], m := .unit, r := (.tup (.pair (.sl I) (.pair .bool .unit))), rf := (.p (.o .i) .i), f := fun x => zz25 big x.1 }
def A_zz25 : Cfg := mkCfg tab [(84, S_zz23), (85, S_zz24)] [(6, [.drop, .as (.ptr (.pair (.sl (.sl I)) .unit)) (.o .i), .drop, .drop, .as I .i, .as I .i]), (12, [.drop, .as (.ptr (.pair (.sl (.sl I)) .unit)) (.o .i), .drop, .drop, .as I .i, .as I .i, .as I .i]), (27, []), (18, [.drop, .as (.ptr (.pair (.sl (.sl I)) .unit)) (.o .i), .drop, .drop, .as I .i, .as I .i, .as I .i, .as I .i]), (9, [.drop, .as (.ptr (.pair (.sl (.sl I)) .unit)) (.o .i), .drop, .drop, .as I .i, .as I .i]), (15, [.drop, .as (.ptr (.pair (.sl (.sl I)) .unit)) (.o .i), .drop, .drop, .as I .i, .as I .i, .as I .i])]
noncomputable def zz25_R3 (N n : Nat) (K : Ex → St → Option ((Y4 × (Bool × Unit)) × Unit)) (p1 : Y2) (n4 : Int) (x5 : Int) : Option ((Y4 × (Bool × Unit)) × Unit) := iter ((A_zz25).shape 6) (run (A_zz25) N (codeAt Try.f116 [1, 1, 0, 1, 0, 0])) n ([.u, .val (.ptr (.pair (.sl (.sl I)) .unit)) (.o .i) p1, .u, .u, .val I .i n4, .val I .i x5] ++ List.replicate 43 .u) K
noncomputable def zz25_R6 (N n : Nat) (K : Ex → St → Option ((Y4 × (Bool × Unit)) × Unit)) (p1 : Y2) (n4 : Int) (x5 : Int) (y6 : Int) : Option ((Y4 × (Bool × Unit)) × Unit) := iter ((A_zz25).shape 12) (run (A_zz25) N (codeAt Try.f116 [1, 1, 0, 1, 0, 0, 1, 0, 0, 1, 0, 0])) n ([.u, .val (.ptr (.pair (.sl (.sl I)) .unit)) (.o .i) p1, .u, .u, .val I .i n4, .val I .i x5, .val I .i y6] ++ List.replicate 42 .u) K
noncomputable def zz25_R9 (N n : Nat) (K : Ex → St → Option ((Y4 × (Bool × Unit)) × Unit)) (p1 : Y2) (n4 : Int) (x5 : Int) (y6 : Int) (z7 : Int) : Option ((Y4 × (Bool × Unit)) × Unit) := iter ((A_zz25).shape 18) (run (A_zz25) N (codeAt Try.f116 [1, 1, 0, 1, 0, 0, 1, 0, 0, 1, 0, 0, 1, 0, 0, 1, 0, 0])) n ([.u, .val (.ptr (.pair (.sl (.sl I)) .unit)) (.o .i) p1, .u, .u, .val I .i n4, .val I .i x5, .val I .i y6, .val I .i z7] ++ List.replicate 41 .u) K
noncomputable abbrev zz25_z : Ex → St → Option ((Y4 × (Bool × Unit)) × Unit) := finish (A_zz25) S_zz25 Try.f116.results.toList
noncomputable abbrev zz25_X3 (kX : St → Option ((Y4 × (Bool × Unit)) × Unit)) : Option ((Y4 × (Bool × Unit)) × Unit) := kX ([] ++ List.replicate 49 .u)
noncomputable abbrev zz25_E3 (kX : St → Option ((Y4 × (Bool × Unit)) × Unit)) (kO : Nat → St → Option ((Y4 × (Bool × Unit)) × Unit)) : Ex → St → Option ((Y4 × (Bool × Unit)) × Unit) := exK zz25_z 0 ((A_zz25).shape 27) kX kO
noncomputable abbrev zz25_X6 (kX : St → Option ((Y4 × (Bool × Unit)) × Unit)) : Y2 → Int → Int → Option ((Y4 × (Bool × Unit)) × Unit) := fun (p1 : Y2) (n4 : Int) (x5 : Int) => kX ([.u, .val (.ptr (.pair (.sl (.sl I)) .unit)) (.o .i) p1, .u, .u, .val I .i n4, .val I .i x5] ++ List.replicate 43 .u)
noncomputable abbrev zz25_E6 (kX : St → Option ((Y4 × (Bool × Unit)) × Unit)) (kO : Nat → St → Option ((Y4 × (Bool × Unit)) × Unit)) : Ex → St → Option ((Y4 × (Bool × Unit)) × Unit) := exK zz25_z 2 ((A_zz25).shape 9) kX kO
noncomputable abbrev zz25_X9 (kX : St → Option ((Y4 × (Bool × Unit)) × Unit)) : Y2 → Int → Int → Int → Option ((Y4 × (Bool × Unit)) × Unit) := fun (p1 : Y2) (n4 : Int) (x5 : Int) (y6 : Int) => kX ([.u, .val (.ptr (.pair (.sl (.sl I)) .unit)) (.o .i) p1, .u, .u, .val I .i n4, .val I .i x5, .val I .i y6] ++ List.replicate 42 .u)
noncomputable abbrev zz25_E9 (kX : St → Option ((Y4 × (Bool × Unit)) × Unit)) (kO : Nat → St → Option ((Y4 × (Bool × Unit)) × Unit)) : Ex → St → Option ((Y4 × (Bool × Unit)) × Unit) := exK zz25_z 4 ((A_zz25).shape 15) kX kO
theorem zz25_step9 (N : Nat) (m : Nat) (kX : St → Option ((Y4 × (Bool × Unit)) × Unit)) (kO : Nat → St → Option ((Y4 × (Bool × Unit)) × Unit)) (p1 : Y2) (n4 : Int) (x5 : Int) (y6 : Int) (z7 : Int) : zz25_R9 N (m + 1) (zz25_E9 kX kO) p1 n4 x5 y6 z7 = zz25_b9 (zz25_R9 N m (zz25_E9 kX kO)) (zz25_X9 kX) p1 n4 x5 y6 z7 := by kernel_rfl
theorem zz25_iter9 (N : Nat) (kX : St → Option ((Y4 × (Bool × Unit)) × Unit)) (kO : Nat → St → Option ((Y4 × (Bool × Unit)) × Unit)) : ∀ (n : Nat) (p1 : Y2) (n4 : Int) (x5 : Int) (y6 : Int) (z7 : Int), zz25_R9 N n (zz25_E9 kX kO) p1 n4 x5 y6 z7 = zz25_l9 N (zz25_X9 kX) n p1 n4 x5 y6 z7
  | 0, _, _, _, _, _ => rfl
  | m + 1, p1, n4, x5, y6, z7 => by
    have hrec : zz25_R9 N m (zz25_E9 kX kO) = (zz25_l9 N (zz25_X9 kX) m) := (funext fun p1 => (funext fun n4 => (funext fun x5 => (funext fun y6 => (funext fun z7 => zz25_iter9 N kX kO m p1 n4 x5 y6 z7)))))
    refine (zz25_step9 N m kX kO p1 n4 x5 y6 z7).trans ?_
    rw [hrec]
    rfl
noncomputable abbrev zz25_K9 (N : Nat) (m : Nat) (kX : St → Option ((Y4 × (Bool × Unit)) × Unit)) (kO : Nat → St → Option ((Y4 × (Bool × Unit)) × Unit)) : Ex → St → Option ((Y4 × (Bool × Unit)) × Unit) := (blockK 4 (blockK 3 (seqK ((A_zz25).shape 15) (run (A_zz25) N (codeAt Try.f116 [1, 1, 0, 1, 0, 0, 1, 0, 0, 1, 0, 0, 1, 1])) (iterK ((A_zz25).shape 12) (run (A_zz25) N (codeAt Try.f116 [1, 1, 0, 1, 0, 0, 1, 0, 0, 1, 0, 0])) m (zz25_E6 kX kO)))))
noncomputable abbrev zz25_k9 (N : Nat) (m : Nat) (kX : St → Option ((Y4 × (Bool × Unit)) × Unit)) (kO : Nat → St → Option ((Y4 × (Bool × Unit)) × Unit)) : St → Option ((Y4 × (Bool × Unit)) × Unit) := fun st' => run (A_zz25) N (codeAt Try.f116 [1, 1, 0, 1, 0, 0, 1, 0, 0, 1, 0, 0, 1, 1]) st' (iterK ((A_zz25).shape 12) (run (A_zz25) N (codeAt Try.f116 [1, 1, 0, 1, 0, 0, 1, 0, 0, 1, 0, 0])) m (zz25_E6 kX kO))
theorem zz25_after9 (N : Nat) (m : Nat) (kX : St → Option ((Y4 × (Bool × Unit)) × Unit)) (kO : Nat → St → Option ((Y4 × (Bool × Unit)) × Unit)) (p1 : Y2) (n4 : Int) (x5 : Int) (y6 : Int) : zz25_X9 (zz25_k9 N m kX kO) p1 n4 x5 y6 = zz25_a9 (zz25_R6 N m (zz25_E6 kX kO)) p1 n4 x5 y6 := by kernel_rfl
theorem zz25_in9 (N : Nat) (m : Nat) (kX : St → Option ((Y4 × (Bool × Unit)) × Unit)) (kO : Nat → St → Option ((Y4 × (Bool × Unit)) × Unit)) (recF : Y2 → Int → Int → Int → Option ((Y4 × (Bool × Unit)) × Unit)) (hrec : zz25_R6 N m (zz25_E6 kX kO) = recF) (p1 : Y2) (n4 : Int) (x5 : Int) (y6 : Int) (z7 : Int) : zz25_R9 N N (zz25_K9 N m kX kO) p1 n4 x5 y6 z7 = zz25_F9 N recF (zz25_X6 kX) p1 n4 x5 y6 z7 :=
  have h : zz25_X9 (zz25_k9 N m kX kO) = (zz25_a9 recF) := (funext fun p1 => (funext fun n4 => (funext fun x5 => (funext fun y6 => (zz25_after9 N m kX kO p1 n4 x5 y6).trans (by rw [hrec])))))
  ((iter_ex (fun st => by kernel_rfl) (fun st => by kernel_rfl)).trans (zz25_iter9 N (zz25_k9 N m kX kO) (fun j st => (zz25_K9 N m kX kO) (.exit j) st) N p1 n4 x5 y6 z7)).trans (congrArg (fun k => zz25_l9 N k N p1 n4 x5 y6 z7) h)
theorem zz25_step6 (N : Nat) (m : Nat) (kX : St → Option ((Y4 × (Bool × Unit)) × Unit)) (kO : Nat → St → Option ((Y4 × (Bool × Unit)) × Unit)) (p1 : Y2) (n4 : Int) (x5 : Int) (y6 : Int) : zz25_R6 N (m + 1) (zz25_E6 kX kO) p1 n4 x5 y6 = zz25_b6 (zz25_R9 N N (zz25_K9 N m kX kO)) (zz25_X6 kX) p1 n4 x5 y6 := by kernel_rfl
theorem zz25_iter6 (N : Nat) (kX : St → Option ((Y4 × (Bool × Unit)) × Unit)) (kO : Nat → St → Option ((Y4 × (Bool × Unit)) × Unit)) : ∀ (n : Nat) (p1 : Y2) (n4 : Int) (x5 : Int) (y6 : Int), zz25_R6 N n (zz25_E6 kX kO) p1 n4 x5 y6 = zz25_l6 N (zz25_X6 kX) n p1 n4 x5 y6
  | 0, _, _, _, _ => rfl
  | m + 1, p1, n4, x5, y6 => by
    have hrec : zz25_R6 N m (zz25_E6 kX kO) = (zz25_l6 N (zz25_X6 kX) m) := (funext fun p1 => (funext fun n4 => (funext fun x5 => (funext fun y6 => zz25_iter6 N kX kO m p1 n4 x5 y6))))
    refine (zz25_step6 N m kX kO p1 n4 x5 y6).trans ?_
    rw [(funext fun p1 => (funext fun n4 => (funext fun x5 => (funext fun y6 => (funext fun z7 => zz25_in9 N m kX kO (zz25_l6 N (zz25_X6 kX) m) hrec p1 n4 x5 y6 z7)))))]
    rfl
noncomputable abbrev zz25_K6 (N : Nat) (m : Nat) (kX : St → Option ((Y4 × (Bool × Unit)) × Unit)) (kO : Nat → St → Option ((Y4 × (Bool × Unit)) × Unit)) : Ex → St → Option ((Y4 × (Bool × Unit)) × Unit) := (blockK 2 (blockK 1 (seqK ((A_zz25).shape 9) (run (A_zz25) N (codeAt Try.f116 [1, 1, 0, 1, 0, 0, 1, 1])) (iterK ((A_zz25).shape 6) (run (A_zz25) N (codeAt Try.f116 [1, 1, 0, 1, 0, 0])) m (zz25_E3 kX kO)))))
noncomputable abbrev zz25_k6 (N : Nat) (m : Nat) (kX : St → Option ((Y4 × (Bool × Unit)) × Unit)) (kO : Nat → St → Option ((Y4 × (Bool × Unit)) × Unit)) : St → Option ((Y4 × (Bool × Unit)) × Unit) := fun st' => run (A_zz25) N (codeAt Try.f116 [1, 1, 0, 1, 0, 0, 1, 1]) st' (iterK ((A_zz25).shape 6) (run (A_zz25) N (codeAt Try.f116 [1, 1, 0, 1, 0, 0])) m (zz25_E3 kX kO))
theorem zz25_after6 (N : Nat) (m : Nat) (kX : St → Option ((Y4 × (Bool × Unit)) × Unit)) (kO : Nat → St → Option ((Y4 × (Bool × Unit)) × Unit)) (p1 : Y2) (n4 : Int) (x5 : Int) : zz25_X6 (zz25_k6 N m kX kO) p1 n4 x5 = zz25_a6 (zz25_R3 N m (zz25_E3 kX kO)) p1 n4 x5 := by kernel_rfl
theorem zz25_in6 (N : Nat) (m : Nat) (kX : St → Option ((Y4 × (Bool × Unit)) × Unit)) (kO : Nat → St → Option ((Y4 × (Bool × Unit)) × Unit)) (recF : Y2 → Int → Int → Option ((Y4 × (Bool × Unit)) × Unit)) (hrec : zz25_R3 N m (zz25_E3 kX kO) = recF) (p1 : Y2) (n4 : Int) (x5 : Int) (y6 : Int) : zz25_R6 N N (zz25_K6 N m kX kO) p1 n4 x5 y6 = zz25_F6 N recF (zz25_X3 kX) p1 n4 x5 y6 :=
  have h : zz25_X6 (zz25_k6 N m kX kO) = (zz25_a6 recF) := (funext fun p1 => (funext fun n4 => (funext fun x5 => (zz25_after6 N m kX kO p1 n4 x5).trans (by rw [hrec]))))
  ((iter_ex (fun st => by kernel_rfl) (fun st => by kernel_rfl)).trans (zz25_iter6 N (zz25_k6 N m kX kO) (fun j st => (zz25_K6 N m kX kO) (.exit j) st) N p1 n4 x5 y6)).trans (congrArg (fun k => zz25_l6 N k N p1 n4 x5 y6) h)
theorem zz25_step3 (N : Nat) (m : Nat) (kX : St → Option ((Y4 × (Bool × Unit)) × Unit)) (kO : Nat → St → Option ((Y4 × (Bool × Unit)) × Unit)) (p1 : Y2) (n4 : Int) (x5 : Int) : zz25_R3 N (m + 1) (zz25_E3 kX kO) p1 n4 x5 = zz25_b3 (zz25_R6 N N (zz25_K6 N m kX kO)) (zz25_X3 kX) p1 n4 x5 := by kernel_rfl
theorem zz25_iter3 (N : Nat) (kX : St → Option ((Y4 × (Bool × Unit)) × Unit)) (kO : Nat → St → Option ((Y4 × (Bool × Unit)) × Unit)) : ∀ (n : Nat) (p1 : Y2) (n4 : Int) (x5 : Int), zz25_R3 N n (zz25_E3 kX kO) p1 n4 x5 = zz25_l3 N (zz25_X3 kX) n p1 n4 x5
  | 0, _, _, _ => rfl
  | m + 1, p1, n4, x5 => by
    have hrec : zz25_R3 N m (zz25_E3 kX kO) = (zz25_l3 N (zz25_X3 kX) m) := (funext fun p1 => (funext fun n4 => (funext fun x5 => zz25_iter3 N kX kO m p1 n4 x5)))
    refine (zz25_step3 N m kX kO p1 n4 x5).trans ?_
    rw [(funext fun p1 => (funext fun n4 => (funext fun x5 => (funext fun y6 => zz25_in6 N m kX kO (zz25_l3 N (zz25_X3 kX) m) hrec p1 n4 x5 y6))))]
    rfl
noncomputable abbrev zz25_K3 (N : Nat) : Ex → St → Option ((Y4 × (Bool × Unit)) × Unit) := (blockK 0 (seqK ((A_zz25).shape 27) (run (A_zz25) N (codeAt Try.f116 [1, 1, 1])) zz25_z))
noncomputable abbrev zz25_k3 (N : Nat) : St → Option ((Y4 × (Bool × Unit)) × Unit) := fun st' => run (A_zz25) N (codeAt Try.f116 [1, 1, 1]) st' zz25_z
theorem zz25_after3 (N : Nat) : zz25_X3 (zz25_k3 N) = zz25_a3 := by kernel_rfl
theorem zz25_in3 (N : Nat) (p1 : Y2) (n4 : Int) (x5 : Int) : zz25_R3 N N (zz25_K3 N) p1 n4 x5 = zz25_F3 N p1 n4 x5 :=
  have h : zz25_X3 (zz25_k3 N) = (zz25_a3) := zz25_after3 N
  ((iter_ex (fun st => by kernel_rfl) (fun st => by kernel_rfl)).trans (zz25_iter3 N (zz25_k3 N) (fun j st => (zz25_K3 N) (.exit j) st) N p1 n4 x5)).trans (congrArg (fun k => zz25_l3 N k N p1 n4 x5) h)
theorem run0_zz25 (N : Nat) (x : (S_zz25).a.den) : runF (A_zz25) N Try.f116 S_zz25 x = (zz25_s (zz25_R3 N N (zz25_K3 N)) x.1) := by kernel_rfl
theorem run_zz25 (N : Nat) (x : (S_zz25).a.den) : runF (A_zz25) N Try.f116 S_zz25 x = zz25 N x.1 := by
  refine (run0_zz25 N x).trans ?_
  rw [(funext fun p1 => (funext fun n4 => (funext fun x5 => zz25_in3 N p1 n4 x5)))]
  rfl
theorem fn_zz25 : FnOk Try.prog 116 := ⟨_, Try.func116, by kernel_rfl, by kernel_rfl⟩
theorem good_zz25 : Gx.Good Try.prog 116 S_zz25 := good_of_run Try.func116 (of_decide_eq_true (by kernel_rfl)) fun x r h => ⟨A_zz25, big, mkCfg_ok tabOk, mkCfg_sigs (show SigsOk Try.prog [(84, S_zz23), (85, S_zz24)] from ⟨⟨fn_zz23, good_zz23⟩, ⟨fn_zz24, good_zz24⟩, trivial⟩), (run_zz25 big x).trans h⟩

/-! zz26 -/
def zz26_s (p_0 : Y2) : Option (Bool × Unit) :=
  (zz22 big p_0).bind fun rq1 =>
  cond (!rq1.1)
  (some (false, (())))
  ((zz25 big p_0).bind fun rq2 =>
  some (!((((), rq2.1.2).2).1), (())))
def zz26 (p_0 : Y2) : Option (Bool × Unit) := zz26_s p_0
def S_zz26 : Sig := { a := (.pair (.pair (.sl (.sl I)) .unit) .unit), md := [0], mf := [], m := .unit, r := .bool, rf := .i, f := fun x => zz26 x.1 }
def A_zz26 : Cfg := mkCfg tab [(81, S_zz22), (116, S_zz25)] []
theorem run_zz26 (N : Nat) (x : (S_zz26).a.den) : runF (A_zz26) N Try.f91 S_zz26 x = zz26 x.1 := by kernel_rfl
theorem fn_zz26 : FnOk Try.prog 91 := ⟨_, Try.func91, by kernel_rfl, by kernel_rfl⟩
theorem good_zz26 : Gx.Good Try.prog 91 S_zz26 := good_of_run Try.func91 (of_decide_eq_true (by kernel_rfl)) fun x r h => ⟨A_zz26, big, mkCfg_ok tabOk, mkCfg_sigs (show SigsOk Try.prog [(81, S_zz22), (116, S_zz25)] from ⟨⟨fn_zz22, good_zz22⟩, ⟨fn_zz25, good_zz25⟩, trivial⟩), (run_zz26 big x).trans h⟩

/-! zz27 -/
def zz27_s (p_0 : Y2) : Option (Int × Unit) :=
  (zz20 big p_0).bind fun rq1 =>
  (zz21 big rq1.1 []).bind fun rq2 =>
  some (rq2.1, (()))
def zz27 (p_0 : Y2) : Option (Int × Unit) := zz27_s p_0
def S_zz27 : Sig := { a := (.pair (.pair (.sl (.sl I)) .unit) .unit), md := [0], mf := [], m := .unit, r := I, rf := .i, f := fun x => zz27 x.1 }
def A_zz27 : Cfg := mkCfg tab [(107, S_zz20), (108, S_zz21)] []
theorem run_zz27 (N : Nat) (x : (S_zz27).a.den) : runF (A_zz27) N Try.f118 S_zz27 x = zz27 x.1 := by kernel_rfl
theorem fn_zz27 : FnOk Try.prog 118 := ⟨_, Try.func118, by kernel_rfl, by kernel_rfl⟩
theorem good_zz27 : Gx.Good Try.prog 118 S_zz27 := good_of_run Try.func118 (of_decide_eq_true (by kernel_rfl)) fun x r h => ⟨A_zz27, big, mkCfg_ok tabOk, mkCfg_sigs (show SigsOk Try.prog [(107, S_zz20), (108, S_zz21)] from ⟨⟨fn_zz20, good_zz20⟩, ⟨fn_zz21, good_zz21⟩, trivial⟩), (run_zz27 big x).trans h⟩

/-! zz28 -/
def zz28_s (p_0 : Y2) : Option (Int × Unit) :=
  (zz21 big p_0 []).bind fun rq1 =>
  some (rq1.1, (()))
def zz28 (p_0 : Y2) : Option (Int × Unit) := zz28_s p_0
def S_zz28 : Sig := { a := (.pair (.pair (.sl (.sl I)) .unit) .unit), md := [0], mf := [], m := .unit, r := I, rf := .i, f := fun x => zz28 x.1 }
def A_zz28 : Cfg := mkCfg tab [(108, S_zz21)] []
theorem run_zz28 (N : Nat) (x : (S_zz28).a.den) : runF (A_zz28) N Try.f119 S_zz28 x = zz28 x.1 := by kernel_rfl
theorem fn_zz28 : FnOk Try.prog 119 := ⟨_, Try.func119, by kernel_rfl, by kernel_rfl⟩
theorem good_zz28 : Gx.Good Try.prog 119 S_zz28 := good_of_run Try.func119 (of_decide_eq_true (by kernel_rfl)) fun x r h => ⟨A_zz28, big, mkCfg_ok tabOk, mkCfg_sigs (show SigsOk Try.prog [(108, S_zz21)] from ⟨⟨fn_zz21, good_zz21⟩, trivial⟩), (run_zz28 big x).trans h⟩

/-! zz29 -/
def zz29_b3 (rec : Int → Int → Int → Y2 → Y4 → Int → Option (Y4 × Unit)) (k : Y4 → Option (Y4 × Unit)) (x1 : Int) (y2 : Int) (z3 : Int) (p4 : Y2) (out9 : Y4) (w10 : Int) : Option (Y4 × Unit) :=
  cond (decide (w10 < (p4.1.length : Int)))
  ((zz24 p4 y2 w10).bind fun rq1 =>
  cond (decide (rq1.1 = x1))
  ((zz23 p4 y2 w10).bind fun rq2 =>
  cond (decide (rq2.1 = z3))
  ((appI out9 [w10]).bind fun xq3 =>
  rec x1 y2 z3 p4 xq3 (IntKind.i64.wrap (w10 + (1 : Int))))
  (rec x1 y2 z3 p4 out9 (IntKind.i64.wrap (w10 + (1 : Int)))))
  (rec x1 y2 z3 p4 out9 (IntKind.i64.wrap (w10 + (1 : Int)))))
  (k out9)
def zz29_a3 (out9 : Y4) : Option (Y4 × Unit) :=
  some (out9, (()))
def zz29_s (L3 : Int → Int → Int → Y2 → Y4 → Int → Option (Y4 × Unit)) (p_0 : Y2) (x_1 : Int) (y_2 : Int) (z_3 : Int) : Option (Y4 × Unit) :=
  L3 x_1 y_2 z_3 p_0 [] (0 : Int)
def zz29_l3 (N : Nat) (k : Y4 → Option (Y4 × Unit)) : Nat → Int → Int → Int → Y2 → Y4 → Int → Option (Y4 × Unit)
  | 0, _, _, _, _, _, _ => none
  | m + 1, x1, y2, z3, p4, out9, w10 => zz29_b3 (zz29_l3 N k m) k x1 y2 z3 p4 out9 w10
def zz29_F3 (N : Nat) (x1 : Int) (y2 : Int) (z3 : Int) (p4 : Y2) (out9 : Y4) (w10 : Int) : Option (Y4 × Unit) := zz29_l3 N (zz29_a3) N x1 y2 z3 p4 out9 w10
def zz29 (N : Nat) (p_0 : Y2) (x_1 : Int) (y_2 : Int) (z_3 : Int) : Option (Y4 × Unit) := zz29_s (zz29_F3 N) p_0 x_1 y_2 z_3
def S_zz29 : Sig := { a := (.pair (.pair (.sl (.sl I)) .unit) (.pair I (.pair I (.pair I .unit)))), md := [0, 0, 0, 0], mf := [], m := .unit, r := (.sl I), rf := (.o .i), f := fun x => zz29 big x.1 x.2.1 x.2.2.1 x.2.2.2.1 }
def A_zz29 : Cfg := mkCfg tab [(85, S_zz24), (84, S_zz23)] [(6, [.drop, .as I .i, .as I .i, .as I .i, .as (.ptr (.pair (.sl (.sl I)) .unit)) (.o .i), .drop, .drop, .drop, .drop, .as (.sl I) (.o .i), .as I .i]), (15, [.drop, .drop, .drop, .drop, .drop, .drop, .drop, .drop, .drop, .as (.sl I) (.o .i)])]
noncomputable def zz29_R3 (N n : Nat) (K : Ex → St → Option (Y4 × Unit)) (x1 : Int) (y2 : Int) (z3 : Int) (p4 : Y2) (out9 : Y4) (w10 : Int) : Option (Y4 × Unit) := iter ((A_zz29).shape 6) (run (A_zz29) N (codeAt Try.f117 [1, 1, 0, 1, 0, 0])) n ([.u, .val I .i x1, .val I .i y2, .val I .i z3, .val (.ptr (.pair (.sl (.sl I)) .unit)) (.o .i) p4, .u, .u, .u, .u, .val (.sl I) (.o .i) out9, .val I .i w10] ++ List.replicate 27 .u) K
noncomputable abbrev zz29_z : Ex → St → Option (Y4 × Unit) := finish (A_zz29) S_zz29 Try.f117.results.toList
noncomputable abbrev zz29_X3 (kX : St → Option (Y4 × Unit)) : Y4 → Option (Y4 × Unit) := fun (out9 : Y4) => kX ([.u, .u, .u, .u, .u, .u, .u, .u, .u, .val (.sl I) (.o .i) out9] ++ List.replicate 28 .u)
noncomputable abbrev zz29_E3 (kX : St → Option (Y4 × Unit)) (kO : Nat → St → Option (Y4 × Unit)) : Ex → St → Option (Y4 × Unit) := exK zz29_z 0 ((A_zz29).shape 15) kX kO
theorem zz29_step3 (N : Nat) (m : Nat) (kX : St → Option (Y4 × Unit)) (kO : Nat → St → Option (Y4 × Unit)) (x1 : Int) (y2 : Int) (z3 : Int) (p4 : Y2) (out9 : Y4) (w10 : Int) : zz29_R3 N (m + 1) (zz29_E3 kX kO) x1 y2 z3 p4 out9 w10 = zz29_b3 (zz29_R3 N m (zz29_E3 kX kO)) (zz29_X3 kX) x1 y2 z3 p4 out9 w10 := by kernel_rfl
theorem zz29_iter3 (N : Nat) (kX : St → Option (Y4 × Unit)) (kO : Nat → St → Option (Y4 × Unit)) : ∀ (n : Nat) (x1 : Int) (y2 : Int) (z3 : Int) (p4 : Y2) (out9 : Y4) (w10 : Int), zz29_R3 N n (zz29_E3 kX kO) x1 y2 z3 p4 out9 w10 = zz29_l3 N (zz29_X3 kX) n x1 y2 z3 p4 out9 w10
  | 0, _, _, _, _, _, _ => rfl
  | m + 1, x1, y2, z3, p4, out9, w10 => by
    have hrec : zz29_R3 N m (zz29_E3 kX kO) = (zz29_l3 N (zz29_X3 kX) m) := (funext fun x1 => (funext fun y2 => (funext fun z3 => (funext fun p4 => (funext fun out9 => (funext fun w10 => zz29_iter3 N kX kO m x1 y2 z3 p4 out9 w10))))))
    refine (zz29_step3 N m kX kO x1 y2 z3 p4 out9 w10).trans ?_
    rw [hrec]
    rfl
noncomputable abbrev zz29_K3 (N : Nat) : Ex → St → Option (Y4 × Unit) := (blockK 0 (seqK ((A_zz29).shape 15) (run (A_zz29) N (codeAt Try.f117 [1, 1, 1])) zz29_z))
noncomputable abbrev zz29_k3 (N : Nat) : St → Option (Y4 × Unit) := fun st' => run (A_zz29) N (codeAt Try.f117 [1, 1, 1]) st' zz29_z
theorem zz29_after3 (N : Nat) (out9 : Y4) : zz29_X3 (zz29_k3 N) out9 = zz29_a3 out9 := by kernel_rfl
theorem zz29_in3 (N : Nat) (x1 : Int) (y2 : Int) (z3 : Int) (p4 : Y2) (out9 : Y4) (w10 : Int) : zz29_R3 N N (zz29_K3 N) x1 y2 z3 p4 out9 w10 = zz29_F3 N x1 y2 z3 p4 out9 w10 :=
  have h : zz29_X3 (zz29_k3 N) = (zz29_a3) := (funext fun out9 => zz29_after3 N out9)
  ((iter_ex (fun st => by kernel_rfl) (fun st => by kernel_rfl)).trans (zz29_iter3 N (zz29_k3 N) (fun j st => (zz29_K3 N) (.exit j) st) N x1 y2 z3 p4 out9 w10)).trans (congrArg (fun k => zz29_l3 N k N x1 y2 z3 p4 out9 w10) h)
theorem run0_zz29 (N : Nat) (x : (S_zz29).a.den) : runF (A_zz29) N Try.f117 S_zz29 x = (zz29_s (zz29_R3 N N (zz29_K3 N)) x.1 x.2.1 x.2.2.1 x.2.2.2.1) := by kernel_rfl
theorem run_zz29 (N : Nat) (x : (S_zz29).a.den) : runF (A_zz29) N Try.f117 S_zz29 x = zz29 N x.1 x.2.1 x.2.2.1 x.2.2.2.1 := by
  refine (run0_zz29 N x).trans ?_
  rw [(funext fun x1 => (funext fun y2 => (funext fun z3 => (funext fun p4 => (funext fun out9 => (funext fun w10 => zz29_in3 N x1 y2 z3 p4 out9 w10))))))]
  rfl
theorem fn_zz29 : FnOk Try.prog 117 := ⟨_, Try.func117, by kernel_rfl, by kernel_rfl⟩
theorem good_zz29 : Gx.Good Try.prog 117 S_zz29 := good_of_run Try.func117 (of_decide_eq_true (by kernel_rfl)) fun x r h => ⟨A_zz29, big, mkCfg_ok tabOk, mkCfg_sigs (show SigsOk Try.prog [(85, S_zz24), (84, S_zz23)] from ⟨⟨fn_zz24, good_zz24⟩, ⟨fn_zz23, good_zz23⟩, trivial⟩), (run_zz29 big x).trans h⟩

/-! zz30 -/
def zz30_b3 (rec : Y2 → Y4 → Int → Option (Y4 × Unit)) (k : Y4 → Option (Y4 × Unit)) (p1 : Y2) (out3 : Y4) (x4 : Int) : Option (Y4 × Unit) :=
  cond (decide (x4 < (p1.1.length : Int)))
  ((zz27 p1).bind fun rq1 =>
  (zz28 p1).bind fun rq2 =>
  (zz29 big p1 rq1.1 x4 rq2.1).bind fun rq3 =>
  (appI out3 [(rq3.1.length : Int)]).bind fun xq4 =>
  rec p1 xq4 (IntKind.i64.wrap (x4 + (1 : Int))))
  (k out3)
def zz30_a3 (out3 : Y4) : Option (Y4 × Unit) :=
  some (out3, (()))
def zz30_s (L3 : Y2 → Y4 → Int → Option (Y4 × Unit)) (p_0 : Y2) : Option (Y4 × Unit) :=
  L3 p_0 [] (0 : Int)
def zz30_l3 (N : Nat) (k : Y4 → Option (Y4 × Unit)) : Nat → Y2 → Y4 → Int → Option (Y4 × Unit)
  | 0, _, _, _ => none
  | m + 1, p1, out3, x4 => zz30_b3 (zz30_l3 N k m) k p1 out3 x4
def zz30_F3 (N : Nat) (p1 : Y2) (out3 : Y4) (x4 : Int) : Option (Y4 × Unit) := zz30_l3 N (zz30_a3) N p1 out3 x4
def zz30 (N : Nat) (p_0 : Y2) : Option (Y4 × Unit) := zz30_s (zz30_F3 N) p_0
def S_zz30 : Sig := { a := (.pair (.pair (.sl (.sl I)) .unit) .unit), md := [0], mf := [], m := .unit, r := (.sl I), rf := (.o .i), f := fun x => zz30 big x.1 }
def A_zz30 : Cfg := mkCfg tab [(118, S_zz27), (119, S_zz28), (117, S_zz29)] [(6, [.drop, .as (.ptr (.pair (.sl (.sl I)) .unit)) (.o .i), .drop, .as (.sl I) (.o .i), .as I .i]), (13, [.drop, .drop, .drop, .as (.sl I) (.o .i)])]
noncomputable def zz30_R3 (N n : Nat) (K : Ex → St → Option (Y4 × Unit)) (p1 : Y2) (out3 : Y4) (x4 : Int) : Option (Y4 × Unit) := iter ((A_zz30).shape 6) (run (A_zz30) N (codeAt Try.f93 [1, 1, 0, 1, 0, 0])) n ([.u, .val (.ptr (.pair (.sl (.sl I)) .unit)) (.o .i) p1, .u, .val (.sl I) (.o .i) out3, .val I .i x4] ++ List.replicate 20 .u) K
noncomputable abbrev zz30_z : Ex → St → Option (Y4 × Unit) := finish (A_zz30) S_zz30 Try.f93.results.toList
noncomputable abbrev zz30_X3 (kX : St → Option (Y4 × Unit)) : Y4 → Option (Y4 × Unit) := fun (out3 : Y4) => kX ([.u, .u, .u, .val (.sl I) (.o .i) out3] ++ List.replicate 21 .u)
noncomputable abbrev zz30_E3 (kX : St → Option (Y4 × Unit)) (kO : Nat → St → Option (Y4 × Unit)) : Ex → St → Option (Y4 × Unit) := exK zz30_z 0 ((A_zz30).shape 13) kX kO
theorem zz30_step3 (N : Nat) (m : Nat) (kX : St → Option (Y4 × Unit)) (kO : Nat → St → Option (Y4 × Unit)) (p1 : Y2) (out3 : Y4) (x4 : Int) : zz30_R3 N (m + 1) (zz30_E3 kX kO) p1 out3 x4 = zz30_b3 (zz30_R3 N m (zz30_E3 kX kO)) (zz30_X3 kX) p1 out3 x4 := by kernel_rfl
theorem zz30_iter3 (N : Nat) (kX : St → Option (Y4 × Unit)) (kO : Nat → St → Option (Y4 × Unit)) : ∀ (n : Nat) (p1 : Y2) (out3 : Y4) (x4 : Int), zz30_R3 N n (zz30_E3 kX kO) p1 out3 x4 = zz30_l3 N (zz30_X3 kX) n p1 out3 x4
  | 0, _, _, _ => rfl
  | m + 1, p1, out3, x4 => by
    have hrec : zz30_R3 N m (zz30_E3 kX kO) = (zz30_l3 N (zz30_X3 kX) m) := (funext fun p1 => (funext fun out3 => (funext fun x4 => zz30_iter3 N kX kO m p1 out3 x4)))
    refine (zz30_step3 N m kX kO p1 out3 x4).trans ?_
    rw [hrec]
    rfl
noncomputable abbrev zz30_K3 (N : Nat) : Ex → St → Option (Y4 × Unit) := (blockK 0 (seqK ((A_zz30).shape 13) (run (A_zz30) N (codeAt Try.f93 [1, 1, 1])) zz30_z))
noncomputable abbrev zz30_k3 (N : Nat) : St → Option (Y4 × Unit) := fun st' => run (A_zz30) N (codeAt Try.f93 [1, 1, 1]) st' zz30_z
theorem zz30_after3 (N : Nat) (out3 : Y4) : zz30_X3 (zz30_k3 N) out3 = zz30_a3 out3 := by kernel_rfl
theorem zz30_in3 (N : Nat) (p1 : Y2) (out3 : Y4) (x4 : Int) : zz30_R3 N N (zz30_K3 N) p1 out3 x4 = zz30_F3 N p1 out3 x4 :=
  have h : zz30_X3 (zz30_k3 N) = (zz30_a3) := (funext fun out3 => zz30_after3 N out3)
  ((iter_ex (fun st => by kernel_rfl) (fun st => by kernel_rfl)).trans (zz30_iter3 N (zz30_k3 N) (fun j st => (zz30_K3 N) (.exit j) st) N p1 out3 x4)).trans (congrArg (fun k => zz30_l3 N k N p1 out3 x4) h)
theorem run0_zz30 (N : Nat) (x : (S_zz30).a.den) : runF (A_zz30) N Try.f93 S_zz30 x = (zz30_s (zz30_R3 N N (zz30_K3 N)) x.1) := by kernel_rfl
theorem run_zz30 (N : Nat) (x : (S_zz30).a.den) : runF (A_zz30) N Try.f93 S_zz30 x = zz30 N x.1 := by
  refine (run0_zz30 N x).trans ?_
  rw [(funext fun p1 => (funext fun out3 => (funext fun x4 => zz30_in3 N p1 out3 x4)))]
  rfl
theorem fn_zz30 : FnOk Try.prog 93 := ⟨_, Try.func93, by kernel_rfl, by kernel_rfl⟩
theorem good_zz30 : Gx.Good Try.prog 93 S_zz30 := good_of_run Try.func93 (of_decide_eq_true (by kernel_rfl)) fun x r h => ⟨A_zz30, big, mkCfg_ok tabOk, mkCfg_sigs (show SigsOk Try.prog [(118, S_zz27), (119, S_zz28), (117, S_zz29)] from ⟨⟨fn_zz27, good_zz27⟩, ⟨fn_zz28, good_zz28⟩, ⟨fn_zz29, good_zz29⟩, trivial⟩), (run_zz30 big x).trans h⟩

/-! zz31 -/
def zz31_s (p_0 : Y2) : Option (Bool × Unit) :=
  (zz26 p_0).bind fun rq1 =>
  cond rq1.1
  ((zz30 big p_0).bind fun rq2 =>
  (zz16 big rq2.1 (0 : Int)).bind fun rq3 =>
  some (!rq3.1, (())))
  (some (false, (())))
def zz31 (p_0 : Y2) : Option (Bool × Unit) := zz31_s p_0
def S_zz31 : Sig := { a := (.pair (.pair (.sl (.sl I)) .unit) .unit), md := [0], mf := [], m := .unit, r := .bool, rf := .i, f := fun x => zz31 x.1 }
def A_zz31 : Cfg := mkCfg tab [(91, S_zz26), (93, S_zz30), (92, S_zz16)] []
theorem run_zz31 (N : Nat) (x : (S_zz31).a.den) : runF (A_zz31) N Try.f61 S_zz31 x = zz31 x.1 := by kernel_rfl
theorem fn_zz31 : FnOk Try.prog 61 := ⟨_, Try.func61, by kernel_rfl, by kernel_rfl⟩
theorem good_zz31 : Gx.Good Try.prog 61 S_zz31 := good_of_run Try.func61 (of_decide_eq_true (by kernel_rfl)) fun x r h => ⟨A_zz31, big, mkCfg_ok tabOk, mkCfg_sigs (show SigsOk Try.prog [(91, S_zz26), (93, S_zz30), (92, S_zz16)] from ⟨⟨fn_zz26, good_zz26⟩, ⟨fn_zz30, good_zz30⟩, ⟨fn_zz16, good_zz16⟩, trivial⟩), (run_zz31 big x).trans h⟩

/-! zz32 -/
def zz32_b3 (rec : Y2 → Y4 → Int → Option (Y4 × Unit)) (k : Y4 → Option (Y4 × Unit)) (p1 : Y2) (out3 : Y4) (x4 : Int) : Option (Y4 × Unit) :=
  cond (decide (x4 < (p1.1.length : Int)))
  ((zz27 p1).bind fun rq1 =>
  (zz28 p1).bind fun rq2 =>
  (zz29 big p1 rq1.1 x4 rq2.1).bind fun rq3 =>
  (atI rq3.1 (0 : Int)).bind fun _ =>
  (rq3.1[(0 : Int).toNat]?).bind fun xq4 =>
  (appI out3 [xq4]).bind fun xq5 =>
  rec p1 xq5 (IntKind.i64.wrap (x4 + (1 : Int))))
  (k out3)
def zz32_a3 (out3 : Y4) : Option (Y4 × Unit) :=
  some (out3, (()))
def zz32_s (L3 : Y2 → Y4 → Int → Option (Y4 × Unit)) (p_0 : Y2) : Option (Y4 × Unit) :=
  L3 p_0 [] (0 : Int)
def zz32_l3 (N : Nat) (k : Y4 → Option (Y4 × Unit)) : Nat → Y2 → Y4 → Int → Option (Y4 × Unit)
  | 0, _, _, _ => none
  | m + 1, p1, out3, x4 => zz32_b3 (zz32_l3 N k m) k p1 out3 x4
def zz32_F3 (N : Nat) (p1 : Y2) (out3 : Y4) (x4 : Int) : Option (Y4 × Unit) := zz32_l3 N (zz32_a3) N p1 out3 x4
def zz32 (N : Nat) (p_0 : Y2) : Option (Y4 × Unit) := zz32_s (zz32_F3 N) p_0
def S_zz32 : Sig := { a := (.pair (.pair (.sl (.sl I)) .unit) .unit), md := [0], mf := [], m := .unit, r := (.sl I), rf := (.o .i), f := fun x => zz32 big x.1 }
def A_zz32 : Cfg := mkCfg tab [(118, S_zz27), (119, S_zz28), (117, S_zz29)] [(6, [.drop, .as (.ptr (.pair (.sl (.sl I)) .unit)) (.o .i), .drop, .as (.sl I) (.o .i), .as I .i]), (13, [.drop, .drop, .drop, .as (.sl I) (.o .i)])]
noncomputable def zz32_R3 (N n : Nat) (K : Ex → St → Option (Y4 × Unit)) (p1 : Y2) (out3 : Y4) (x4 : Int) : Option (Y4 × Unit) := iter ((A_zz32).shape 6) (run (A_zz32) N (codeAt Try.f94 [1, 1, 0, 1, 0, 0])) n ([.u, .val (.ptr (.pair (.sl (.sl I)) .unit)) (.o .i) p1, .u, .val (.sl I) (.o .i) out3, .val I .i x4] ++ List.replicate 21 .u) K
noncomputable abbrev zz32_z : Ex → St → Option (Y4 × Unit) := finish (A_zz32) S_zz32 Try.f94.results.toList
noncomputable abbrev zz32_X3 (kX : St → Option (Y4 × Unit)) : Y4 → Option (Y4 × Unit) := fun (out3 : Y4) => kX ([.u, .u, .u, .val (.sl I) (.o .i) out3] ++ List.replicate 22 .u)
noncomputable abbrev zz32_E3 (kX : St → Option (Y4 × Unit)) (kO : Nat → St → Option (Y4 × Unit)) : Ex → St → Option (Y4 × Unit) := exK zz32_z 0 ((A_zz32).shape 13) kX kO
theorem zz32_step3 (N : Nat) (m : Nat) (kX : St → Option (Y4 × Unit)) (kO : Nat → St → Option (Y4 × Unit)) (p1 : Y2) (out3 : Y4) (x4 : Int) : zz32_R3 N (m + 1) (zz32_E3 kX kO) p1 out3 x4 = zz32_b3 (zz32_R3 N m (zz32_E3 kX kO)) (zz32_X3 kX) p1 out3 x4 := by kernel_rfl
theorem zz32_iter3 (N : Nat) (kX : St → Option (Y4 × Unit)) (kO : Nat → St → Option (Y4 × Unit)) : ∀ (n : Nat) (p1 : Y2) (out3 : Y4) (x4 : Int), zz32_R3 N n (zz32_E3 kX kO) p1 out3 x4 = zz32_l3 N (zz32_X3 kX) n p1 out3 x4
  | 0, _, _, _ => rfl
  | m + 1, p1, out3, x4 => by
    have hrec : zz32_R3 N m (zz32_E3 kX kO) = (zz32_l3 N (zz32_X3 kX) m) := (funext fun p1 => (funext fun out3 => (funext fun x4 => zz32_iter3 N kX kO m p1 out3 x4)))
    refine (zz32_step3 N m kX kO p1 out3 x4).trans ?_
    rw [hrec]
    rfl
noncomputable abbrev zz32_K3 (N : Nat) : Ex → St → Option (Y4 × Unit) := (blockK 0 (seqK ((A_zz32).shape 13) (run (A_zz32) N (codeAt Try.f94 [1, 1, 1])) zz32_z))
noncomputable abbrev zz32_k3 (N : Nat) : St → Option (Y4 × Unit) := fun st' => run (A_zz32) N (codeAt Try.f94 [1, 1, 1]) st' zz32_z
theorem zz32_after3 (N : Nat) (out3 : Y4) : zz32_X3 (zz32_k3 N) out3 = zz32_a3 out3 := by kernel_rfl
theorem zz32_in3 (N : Nat) (p1 : Y2) (out3 : Y4) (x4 : Int) : zz32_R3 N N (zz32_K3 N) p1 out3 x4 = zz32_F3 N p1 out3 x4 :=
  have h : zz32_X3 (zz32_k3 N) = (zz32_a3) := (funext fun out3 => zz32_after3 N out3)
  ((iter_ex (fun st => by kernel_rfl) (fun st => by kernel_rfl)).trans (zz32_iter3 N (zz32_k3 N) (fun j st => (zz32_K3 N) (.exit j) st) N p1 out3 x4)).trans (congrArg (fun k => zz32_l3 N k N p1 out3 x4) h)
theorem run0_zz32 (N : Nat) (x : (S_zz32).a.den) : runF (A_zz32) N Try.f94 S_zz32 x = (zz32_s (zz32_R3 N N (zz32_K3 N)) x.1) := by kernel_rfl
theorem run_zz32 (N : Nat) (x : (S_zz32).a.den) : runF (A_zz32) N Try.f94 S_zz32 x = zz32 N x.1 := by
  refine (run0_zz32 N x).trans ?_
  rw [(funext fun p1 => (funext fun out3 => (funext fun x4 => zz32_in3 N p1 out3 x4)))]
  rfl
theorem fn_zz32 : FnOk Try.prog 94 := ⟨_, Try.func94, by kernel_rfl, by kernel_rfl⟩
theorem good_zz32 : Gx.Good Try.prog 94 S_zz32 := good_of_run Try.func94 (of_decide_eq_true (by kernel_rfl)) fun x r h => ⟨A_zz32, big, mkCfg_ok tabOk, mkCfg_sigs (show SigsOk Try.prog [(118, S_zz27), (119, S_zz28), (117, S_zz29)] from ⟨⟨fn_zz27, good_zz27⟩, ⟨fn_zz28, good_zz28⟩, ⟨fn_zz29, good_zz29⟩, trivial⟩), (run_zz32 big x).trans h⟩

/-! zz33 -/
def zz33_s (p_0 : Y2) (not_1 : Y4) (x_2 : Int) (y_3 : Int) : Option (Int × Unit) :=
  (atI not_1 y_3).bind fun xq1 =>
  (zz24 p_0 x_2 xq1).bind fun rq2 =>
  (atI not_1 x_2).bind fun xq3 =>
  (zz24 p_0 xq3 y_3).bind fun rq4 =>
  (zz23 p_0 rq2.1 rq4.1).bind fun rq5 =>
  some (rq5.1, (()))
def zz33 (p_0 : Y2) (not_1 : Y4) (x_2 : Int) (y_3 : Int) : Option (Int × Unit) := zz33_s p_0 not_1 x_2 y_3
def S_zz33 : Sig := { a := (.pair (.pair (.sl (.sl I)) .unit) (.pair (.sl I) (.pair I (.pair I .unit)))), md := [0, 0, 0, 0], mf := [], m := .unit, r := I, rf := .i, f := fun x => zz33 x.1 x.2.1 x.2.2.1 x.2.2.2.1 }
def A_zz33 : Cfg := mkCfg tab [(85, S_zz24), (84, S_zz23)] []
theorem run_zz33 (N : Nat) (x : (S_zz33).a.den) : runF (A_zz33) N Try.f95 S_zz33 x = zz33 x.1 x.2.1 x.2.2.1 x.2.2.2.1 := by kernel_rfl
theorem fn_zz33 : FnOk Try.prog 95 := ⟨_, Try.func95, by kernel_rfl, by kernel_rfl⟩
theorem good_zz33 : Gx.Good Try.prog 95 S_zz33 := good_of_run Try.func95 (of_decide_eq_true (by kernel_rfl)) fun x r h => ⟨A_zz33, big, mkCfg_ok tabOk, mkCfg_sigs (show SigsOk Try.prog [(85, S_zz24), (84, S_zz23)] from ⟨⟨fn_zz24, good_zz24⟩, ⟨fn_zz23, good_zz23⟩, trivial⟩), (run_zz33 big x).trans h⟩

/-! zz34 -/
def zz34_b7 (rec : Y2 → Y7 → Int → Y4 → Y6 → Y6 → Int → Int → Option (Y7 × Unit)) (k : Y2 → Y7 → Int → Y4 → Y6 → Y6 → Int → Option (Y7 × Unit)) (p1 : Y2) (t2 : Y7) (n3 : Int) (not4 : Y4) (sum5 : Y6) (meet6 : Y6) (x7 : Int) (y8 : Int) : Option (Y7 × Unit) :=
  cond (decide (y8 < n3))
  ((zz33 p1 not4 x7 y8).bind fun rq2 =>
  (appI sum5.2.1 [rq2.1]).bind fun xq3 =>
  (zz24 p1 x7 y8).bind fun rq4 =>
  (appI meet6.2.1 [rq4.1]).bind fun xq5 =>
  rec p1 t2 n3 not4 ((sum5.1, ((), sum5.2.2)).1, (xq3, ((sum5.1, ((), sum5.2.2)).2).2)) ((meet6.1, ((), meet6.2.2)).1, (xq5, ((meet6.1, ((), meet6.2.2)).2).2)) x7 (IntKind.i64.wrap (y8 + (1 : Int))))
  (k p1 t2 n3 not4 sum5 meet6 x7)
def zz34_a7 (rec : Y2 → Y7 → Int → Y4 → Y6 → Y6 → Int → Option (Y7 × Unit)) (p1 : Y2) (t2 : Y7) (n3 : Int) (not4 : Y4) (sum5 : Y6) (meet6 : Y6) (x7 : Int) : Option (Y7 × Unit) :=
  rec p1 t2 n3 not4 sum5 meet6 (IntKind.i64.wrap (x7 + (1 : Int)))
def zz34_b4 (L7 : Y2 → Y7 → Int → Y4 → Y6 → Y6 → Int → Int → Option (Y7 × Unit)) (k : Y7 → Int → Y6 → Y6 → Option (Y7 × Unit)) (p1 : Y2) (t2 : Y7) (n3 : Int) (not4 : Y4) (sum5 : Y6) (meet6 : Y6) (x7 : Int) : Option (Y7 × Unit) :=
  cond (decide (x7 < n3))
  (L7 p1 t2 n3 not4 sum5 meet6 x7 (0 : Int))
  (k t2 n3 sum5 meet6)
def zz34_a4 (t2 : Y7) (n3 : Int) (sum5 : Y6) (meet6 : Y6) : Option (Y7 × Unit) :=
  some ((n3, ([sum5, meet6], ())), (()))
def zz34_s (L4 : Y2 → Y7 → Int → Y4 → Y6 → Y6 → Int → Option (Y7 × Unit)) (p_0 : Y2) : Option (Y7 × Unit) :=
  (zz32 big p_0).bind fun rq1 =>
  L4 p_0 ((0 : Int), (([] : (List Y6)), ())) (p_0.1.length : Int) rq1.1 ((2 : Int), ([], ())) ((2 : Int), ([], ())) (0 : Int)
def zz34_l7 (N : Nat) (k : Y2 → Y7 → Int → Y4 → Y6 → Y6 → Int → Option (Y7 × Unit)) : Nat → Y2 → Y7 → Int → Y4 → Y6 → Y6 → Int → Int → Option (Y7 × Unit)
  | 0, _, _, _, _, _, _, _, _ => none
  | m + 1, p1, t2, n3, not4, sum5, meet6, x7, y8 => zz34_b7 (zz34_l7 N k m) k p1 t2 n3 not4 sum5 meet6 x7 y8
def zz34_F7 (N : Nat) (rec : Y2 → Y7 → Int → Y4 → Y6 → Y6 → Int → Option (Y7 × Unit)) (k : Y7 → Int → Y6 → Y6 → Option (Y7 × Unit)) (p1 : Y2) (t2 : Y7) (n3 : Int) (not4 : Y4) (sum5 : Y6) (meet6 : Y6) (x7 : Int) (y8 : Int) : Option (Y7 × Unit) := zz34_l7 N (zz34_a7 rec) N p1 t2 n3 not4 sum5 meet6 x7 y8
def zz34_l4 (N : Nat) (k : Y7 → Int → Y6 → Y6 → Option (Y7 × Unit)) : Nat → Y2 → Y7 → Int → Y4 → Y6 → Y6 → Int → Option (Y7 × Unit)
  | 0, _, _, _, _, _, _, _ => none
  | m + 1, p1, t2, n3, not4, sum5, meet6, x7 => zz34_b4 (zz34_F7 N (zz34_l4 N k m) k) k p1 t2 n3 not4 sum5 meet6 x7
def zz34_F4 (N : Nat) (p1 : Y2) (t2 : Y7) (n3 : Int) (not4 : Y4) (sum5 : Y6) (meet6 : Y6) (x7 : Int) : Option (Y7 × Unit) := zz34_l4 N (zz34_a4) N p1 t2 n3 not4 sum5 meet6 x7
def zz34 (N : Nat) (p_0 : Y2) : Option (Y7 × Unit) := zz34_s (zz34_F4 N) p_0
def S_zz34 : Sig := { a := (.pair (.pair (.sl (.sl I)) .unit) .unit), md := [0], mf := [], m := .unit, r := (.pair I (.pair (.sl (.pair I (.pair (.sl I) .unit))) .unit)), rf := (.p .i (.p (.o (.p .i (.p (.o .i) .i))) .i)), f := fun x => zz34 big x.1 }
def A_zz34 : Cfg := mkCfg tab [(94, S_zz32), (95, S_zz33), (85, S_zz24)] [(8, [.drop, .as (.ptr (.pair (.sl (.sl I)) .unit)) (.o .i), .as (.ptr (.pair I (.pair (.sl (.pair I (.pair (.sl I) .unit))) .unit))) (.o (.p .i (.p (.o (.p .i (.p (.o .i) .i))) .i))), .as I .i, .as (.sl I) (.o .i), .as (.ptr (.pair I (.pair (.sl I) .unit))) (.o (.p .i (.p (.o .i) .i))), .as (.ptr (.pair I (.pair (.sl I) .unit))) (.o (.p .i (.p (.o .i) .i))), .as I .i]), (14, [.drop, .as (.ptr (.pair (.sl (.sl I)) .unit)) (.o .i), .as (.ptr (.pair I (.pair (.sl (.pair I (.pair (.sl I) .unit))) .unit))) (.o (.p .i (.p (.o (.p .i (.p (.o .i) .i))) .i))), .as I .i, .as (.sl I) (.o .i), .as (.ptr (.pair I (.pair (.sl I) .unit))) (.o (.p .i (.p (.o .i) .i))), .as (.ptr (.pair I (.pair (.sl I) .unit))) (.o (.p .i (.p (.o .i) .i))), .as I .i, .as I .i]), (23, [.drop, .drop, .as (.ptr (.pair I (.pair (.sl (.pair I (.pair (.sl I) .unit))) .unit))) (.o (.p .i (.p (.o (.p .i (.p (.o .i) .i))) .i))), .as I .i, .drop, .as (.ptr (.pair I (.pair (.sl I) .unit))) (.o (.p .i (.p (.o .i) .i))), .as (.ptr (.pair I (.pair (.sl I) .unit))) (.o (.p .i (.p (.o .i) .i)))]), (11, [.drop, .as (.ptr (.pair (.sl (.sl I)) .unit)) (.o .i), .as (.ptr (.pair I (.pair (.sl (.pair I (.pair (.sl I) .unit))) .unit))) (.o (.p .i (.p (.o (.p .i (.p (.o .i) .i))) .i))), .as I .i, .as (.sl I) (.o .i), .as (.ptr (.pair I (.pair (.sl I) .unit))) (.o (.p .i (.p (.o .i) .i))), .as (.ptr (.pair I (.pair (.sl I) .unit))) (.o (.p .i (.p (.o .i) .i))), .as I .i])]
noncomputable def zz34_R4 (N n : Nat) (K : Ex → St → Option (Y7 × Unit)) (p1 : Y2) (t2 : Y7) (n3 : Int) (not4 : Y4) (sum5 : Y6) (meet6 : Y6) (x7 : Int) : Option (Y7 × Unit) := iter ((A_zz34).shape 8) (run (A_zz34) N (codeAt Try.f62 [1, 1, 1, 0, 1, 0, 0])) n ([.u, .val (.ptr (.pair (.sl (.sl I)) .unit)) (.o .i) p1, .val (.ptr (.pair I (.pair (.sl (.pair I (.pair (.sl I) .unit))) .unit))) (.o (.p .i (.p (.o (.p .i (.p (.o .i) .i))) .i))) t2, .val I .i n3, .val (.sl I) (.o .i) not4, .val (.ptr (.pair I (.pair (.sl I) .unit))) (.o (.p .i (.p (.o .i) .i))) sum5, .val (.ptr (.pair I (.pair (.sl I) .unit))) (.o (.p .i (.p (.o .i) .i))) meet6, .val I .i x7] ++ List.replicate 44 .u) K
noncomputable def zz34_R7 (N n : Nat) (K : Ex → St → Option (Y7 × Unit)) (p1 : Y2) (t2 : Y7) (n3 : Int) (not4 : Y4) (sum5 : Y6) (meet6 : Y6) (x7 : Int) (y8 : Int) : Option (Y7 × Unit) := iter ((A_zz34).shape 14) (run (A_zz34) N (codeAt Try.f62 [1, 1, 1, 0, 1, 0, 0, 1, 0, 0, 1, 0, 0])) n ([.u, .val (.ptr (.pair (.sl (.sl I)) .unit)) (.o .i) p1, .val (.ptr (.pair I (.pair (.sl (.pair I (.pair (.sl I) .unit))) .unit))) (.o (.p .i (.p (.o (.p .i (.p (.o .i) .i))) .i))) t2, .val I .i n3, .val (.sl I) (.o .i) not4, .val (.ptr (.pair I (.pair (.sl I) .unit))) (.o (.p .i (.p (.o .i) .i))) sum5, .val (.ptr (.pair I (.pair (.sl I) .unit))) (.o (.p .i (.p (.o .i) .i))) meet6, .val I .i x7, .val I .i y8] ++ List.replicate 43 .u) K
noncomputable abbrev zz34_z : Ex → St → Option (Y7 × Unit) := finish (A_zz34) S_zz34 Try.f62.results.toList
noncomputable abbrev zz34_X4 (kX : St → Option (Y7 × Unit)) : Y7 → Int → Y6 → Y6 → Option (Y7 × Unit) := fun (t2 : Y7) (n3 : Int) (sum5 : Y6) (meet6 : Y6) => kX ([.u, .u, .val (.ptr (.pair I (.pair (.sl (.pair I (.pair (.sl I) .unit))) .unit))) (.o (.p .i (.p (.o (.p .i (.p (.o .i) .i))) .i))) t2, .val I .i n3, .u, .val (.ptr (.pair I (.pair (.sl I) .unit))) (.o (.p .i (.p (.o .i) .i))) sum5, .val (.ptr (.pair I (.pair (.sl I) .unit))) (.o (.p .i (.p (.o .i) .i))) meet6] ++ List.replicate 45 .u)
noncomputable abbrev zz34_E4 (kX : St → Option (Y7 × Unit)) (kO : Nat → St → Option (Y7 × Unit)) : Ex → St → Option (Y7 × Unit) := exK zz34_z 0 ((A_zz34).shape 23) kX kO
noncomputable abbrev zz34_X7 (kX : St → Option (Y7 × Unit)) : Y2 → Y7 → Int → Y4 → Y6 → Y6 → Int → Option (Y7 × Unit) := fun (p1 : Y2) (t2 : Y7) (n3 : Int) (not4 : Y4) (sum5 : Y6) (meet6 : Y6) (x7 : Int) => kX ([.u, .val (.ptr (.pair (.sl (.sl I)) .unit)) (.o .i) p1, .val (.ptr (.pair I (.pair (.sl (.pair I (.pair (.sl I) .unit))) .unit))) (.o (.p .i (.p (.o (.p .i (.p (.o .i) .i))) .i))) t2, .val I .i n3, .val (.sl I) (.o .i) not4, .val (.ptr (.pair I (.pair (.sl I) .unit))) (.o (.p .i (.p (.o .i) .i))) sum5, .val (.ptr (.pair I (.pair (.sl I) .unit))) (.o (.p .i (.p (.o .i) .i))) meet6, .val I .i x7] ++ List.replicate 44 .u)
noncomputable abbrev zz34_E7 (kX : St → Option (Y7 × Unit)) (kO : Nat → St → Option (Y7 × Unit)) : Ex → St → Option (Y7 × Unit) := exK zz34_z 2 ((A_zz34).shape 11) kX kO
theorem zz34_step7 (N : Nat) (m : Nat) (kX : St → Option (Y7 × Unit)) (kO : Nat → St → Option (Y7 × Unit)) (p1 : Y2) (t2 : Y7) (n3 : Int) (not4 : Y4) (sum5 : Y6) (meet6 : Y6) (x7 : Int) (y8 : Int) : zz34_R7 N (m + 1) (zz34_E7 kX kO) p1 t2 n3 not4 sum5 meet6 x7 y8 = zz34_b7 (zz34_R7 N m (zz34_E7 kX kO)) (zz34_X7 kX) p1 t2 n3 not4 sum5 meet6 x7 y8 := by kernel_rfl
theorem zz34_iter7 (N : Nat) (kX : St → Option (Y7 × Unit)) (kO : Nat → St → Option (Y7 × Unit)) : ∀ (n : Nat) (p1 : Y2) (t2 : Y7) (n3 : Int) (not4 : Y4) (sum5 : Y6) (meet6 : Y6) (x7 : Int) (y8 : Int), zz34_R7 N n (zz34_E7 kX kO) p1 t2 n3 not4 sum5 meet6 x7 y8 = zz34_l7 N (zz34_X7 kX) n p1 t2 n3 not4 sum5 meet6 x7 y8
  | 0, _, _, _, _, _, _, _, _ => rfl
  | m + 1, p1, t2, n3, not4, sum5, meet6, x7, y8 => by
    have hrec : zz34_R7 N m (zz34_E7 kX kO) = (zz34_l7 N (zz34_X7 kX) m) := (funext fun p1 => (funext fun t2 => (funext fun n3 => (funext fun not4 => (funext fun sum5 => (funext fun meet6 => (funext fun x7 => (funext fun y8 => zz34_iter7 N kX kO m p1 t2 n3 not4 sum5 meet6 x7 y8))))))))
    refine (zz34_step7 N m kX kO p1 t2 n3 not4 sum5 meet6 x7 y8).trans ?_
    rw [hrec]
    rfl
noncomputable abbrev zz34_K7 (N : Nat) (m : Nat) (kX : St → Option (Y7 × Unit)) (kO : Nat → St → Option (Y7 × Unit)) : Ex → St → Option (Y7 × Unit) := (blockK 2 (blockK 1 (seqK ((A_zz34).shape 11) (run (A_zz34) N (codeAt Try.f62 [1, 1, 1, 0, 1, 0, 0, 1, 1])) (iterK ((A_zz34).shape 8) (run (A_zz34) N (codeAt Try.f62 [1, 1, 1, 0, 1, 0, 0])) m (zz34_E4 kX kO)))))
noncomputable abbrev zz34_k7 (N : Nat) (m : Nat) (kX : St → Option (Y7 × Unit)) (kO : Nat → St → Option (Y7 × Unit)) : St → Option (Y7 × Unit) := fun st' => run (A_zz34) N (codeAt Try.f62 [1, 1, 1, 0, 1, 0, 0, 1, 1]) st' (iterK ((A_zz34).shape 8) (run (A_zz34) N (codeAt Try.f62 [1, 1, 1, 0, 1, 0, 0])) m (zz34_E4 kX kO))
theorem zz34_after7 (N : Nat) (m : Nat) (kX : St → Option (Y7 × Unit)) (kO : Nat → St → Option (Y7 × Unit)) (p1 : Y2) (t2 : Y7) (n3 : Int) (not4 : Y4) (sum5 : Y6) (meet6 : Y6) (x7 : Int) : zz34_X7 (zz34_k7 N m kX kO) p1 t2 n3 not4 sum5 meet6 x7 = zz34_a7 (zz34_R4 N m (zz34_E4 kX kO)) p1 t2 n3 not4 sum5 meet6 x7 := by kernel_rfl
theorem zz34_in7 (N : Nat) (m : Nat) (kX : St → Option (Y7 × Unit)) (kO : Nat → St → Option (Y7 × Unit)) (recF : Y2 → Y7 → Int → Y4 → Y6 → Y6 → Int → Option (Y7 × Unit)) (hrec : zz34_R4 N m (zz34_E4 kX kO) = recF) (p1 : Y2) (t2 : Y7) (n3 : Int) (not4 : Y4) (sum5 : Y6) (meet6 : Y6) (x7 : Int) (y8 : Int) : zz34_R7 N N (zz34_K7 N m kX kO) p1 t2 n3 not4 sum5 meet6 x7 y8 = zz34_F7 N recF (zz34_X4 kX) p1 t2 n3 not4 sum5 meet6 x7 y8 :=
  have h : zz34_X7 (zz34_k7 N m kX kO) = (zz34_a7 recF) := (funext fun p1 => (funext fun t2 => (funext fun n3 => (funext fun not4 => (funext fun sum5 => (funext fun meet6 => (funext fun x7 => (zz34_after7 N m kX kO p1 t2 n3 not4 sum5 meet6 x7).trans (by rw [hrec]))))))))
  ((iter_ex (fun st => by kernel_rfl) (fun st => by kernel_rfl)).trans (zz34_iter7 N (zz34_k7 N m kX kO) (fun j st => (zz34_K7 N m kX kO) (.exit j) st) N p1 t2 n3 not4 sum5 meet6 x7 y8)).trans (congrArg (fun k => zz34_l7 N k N p1 t2 n3 not4 sum5 meet6 x7 y8) h)
theorem zz34_step4 (N : Nat) (m : Nat) (kX : St → Option (Y7 × Unit)) (kO : Nat → St → Option (Y7 × Unit)) (p1 : Y2) (t2 : Y7) (n3 : Int) (not4 : Y4) (sum5 : Y6) (meet6 : Y6) (x7 : Int) : zz34_R4 N (m + 1) (zz34_E4 kX kO) p1 t2 n3 not4 sum5 meet6 x7 = zz34_b4 (zz34_R7 N N (zz34_K7 N m kX kO)) (zz34_X4 kX) p1 t2 n3 not4 sum5 meet6 x7 := by kernel_rfl
theorem zz34_iter4 (N : Nat) (kX : St → Option (Y7 × Unit)) (kO : Nat → St → Option (Y7 × Unit)) : ∀ (n : Nat) (p1 : Y2) (t2 : Y7) (n3 : Int) (not4 : Y4) (sum5 : Y6) (meet6 : Y6) (x7 : Int), zz34_R4 N n (zz34_E4 kX kO) p1 t2 n3 not4 sum5 meet6 x7 = zz34_l4 N (zz34_X4 kX) n p1 t2 n3 not4 sum5 meet6 x7
  | 0, _, _, _, _, _, _, _ => rfl
  | m + 1, p1, t2, n3, not4, sum5, meet6, x7 => by
    have hrec : zz34_R4 N m (zz34_E4 kX kO) = (zz34_l4 N (zz34_X4 kX) m) := (funext fun p1 => (funext fun t2 => (funext fun n3 => (funext fun not4 => (funext fun sum5 => (funext fun meet6 => (funext fun x7 => zz34_iter4 N kX kO m p1 t2 n3 not4 sum5 meet6 x7)))))))
    refine (zz34_step4 N m kX kO p1 t2 n3 not4 sum5 meet6 x7).trans ?_
    rw [(funext fun p1 => (funext fun t2 => (funext fun n3 => (funext fun not4 => (funext fun sum5 => (funext fun meet6 => (funext fun x7 => (funext fun y8 => zz34_in7 N m kX kO (zz34_l4 N (zz34_X4 kX) m) hrec p1 t2 n3 not4 sum5 meet6 x7 y8))))))))]
    rfl
noncomputable abbrev zz34_K4 (N : Nat) : Ex → St → Option (Y7 × Unit) := (blockK 0 (seqK ((A_zz34).shape 23) (run (A_zz34) N (codeAt Try.f62 [1, 1, 1, 1])) zz34_z))
noncomputable abbrev zz34_k4 (N : Nat) : St → Option (Y7 × Unit) := fun st' => run (A_zz34) N (codeAt Try.f62 [1, 1, 1, 1]) st' zz34_z
theorem zz34_after4 (N : Nat) (t2 : Y7) (n3 : Int) (sum5 : Y6) (meet6 : Y6) : zz34_X4 (zz34_k4 N) t2 n3 sum5 meet6 = zz34_a4 t2 n3 sum5 meet6 := by kernel_rfl
theorem zz34_in4 (N : Nat) (p1 : Y2) (t2 : Y7) (n3 : Int) (not4 : Y4) (sum5 : Y6) (meet6 : Y6) (x7 : Int) : zz34_R4 N N (zz34_K4 N) p1 t2 n3 not4 sum5 meet6 x7 = zz34_F4 N p1 t2 n3 not4 sum5 meet6 x7 :=
  have h : zz34_X4 (zz34_k4 N) = (zz34_a4) := (funext fun t2 => (funext fun n3 => (funext fun sum5 => (funext fun meet6 => zz34_after4 N t2 n3 sum5 meet6))))
  ((iter_ex (fun st => by kernel_rfl) (fun st => by kernel_rfl)).trans (zz34_iter4 N (zz34_k4 N) (fun j st => (zz34_K4 N) (.exit j) st) N p1 t2 n3 not4 sum5 meet6 x7)).trans (congrArg (fun k => zz34_l4 N k N p1 t2 n3 not4 sum5 meet6 x7) h)
theorem run0_zz34 (N : Nat) (x : (S_zz34).a.den) : runF (A_zz34) N Try.f62 S_zz34 x = (zz34_s (zz34_R4 N N (zz34_K4 N)) x.1) := by kernel_rfl
theorem run_zz34 (N : Nat) (x : (S_zz34).a.den) : runF (A_zz34) N Try.f62 S_zz34 x = zz34 N x.1 := by
  refine (run0_zz34 N x).trans ?_
  rw [(funext fun p1 => (funext fun t2 => (funext fun n3 => (funext fun not4 => (funext fun sum5 => (funext fun meet6 => (funext fun x7 => zz34_in4 N p1 t2 n3 not4 sum5 meet6 x7)))))))]
  rfl
theorem fn_zz34 : FnOk Try.prog 62 := ⟨_, Try.func62, by kernel_rfl, by kernel_rfl⟩
theorem good_zz34 : Gx.Good Try.prog 62 S_zz34 := good_of_run Try.func62 (of_decide_eq_true (by kernel_rfl)) fun x r h => ⟨A_zz34, big, mkCfg_ok tabOk, mkCfg_sigs (show SigsOk Try.prog [(94, S_zz32), (95, S_zz33), (85, S_zz24)] from ⟨⟨fn_zz32, good_zz32⟩, ⟨fn_zz33, good_zz33⟩, ⟨fn_zz24, good_zz24⟩, trivial⟩), (run_zz34 big x).trans h⟩

/-! zz35 -/
def zz35_b9 (rec : Y7 → Y2 → Y2 → Int → Y4 → Int → Option ((Y2 × (Bool × Unit)) × Unit)) (k : Y7 → Y2 → Y2 → Int → Y4 → Option ((Y2 × (Bool × Unit)) × Unit)) (a1 : Y7) (t2 : Y2) (p4 : Y2) (y5 : Int) (below6 : Y4) (x7 : Int) : Option ((Y2 × (Bool × Unit)) × Unit) :=
  cond (decide (x7 < a1.1))
  ((zz14 big a1 (1 : Int) [x7, y5]).bind fun rq16 =>
  cond (decide (rq16.1 = x7))
  ((appI below6 [x7]).bind fun xq17 =>
  rec a1 t2 p4 y5 xq17 (IntKind.i64.wrap (x7 + (1 : Int))))
  (rec a1 t2 p4 y5 below6 (IntKind.i64.wrap (x7 + (1 : Int)))))
  (k a1 t2 p4 y5 below6)
def zz35_a9 (rec : Y7 → Y2 → Y2 → Int → Option ((Y2 × (Bool × Unit)) × Unit)) (a1 : Y7) (t2 : Y2) (p4 : Y2) (y5 : Int) (below6 : Y4) : Option ((Y2 × (Bool × Unit)) × Unit) :=
  (appI p4.1 [below6]).bind fun xq18 =>
  rec a1 t2 (xq18, ((), p4.2).2) (IntKind.i64.wrap (y5 + (1 : Int)))
def zz35_b5 (L9 : Y7 → Y2 → Y2 → Int → Y4 → Int → Option ((Y2 × (Bool × Unit)) × Unit)) (k : Y7 → Y2 → Y2 → Option ((Y2 × (Bool × Unit)) × Unit)) (a1 : Y7) (t2 : Y2) (p4 : Y2) (y5 : Int) : Option ((Y2 × (Bool × Unit)) × Unit) :=
  cond (decide (y5 < a1.1))
  (L9 a1 t2 p4 y5 [] (0 : Int))
  (k a1 t2 p4)
def zz35_a5 (a1 : Y7) (t2 : Y2) (p4 : Y2) : Option ((Y2 × (Bool × Unit)) × Unit) :=
  (zz31 p4).bind fun rq4 =>
  cond (!rq4.1)
  (some (((([] : Y3), ()), false, ()), (())))
  ((zz34 big p4).bind fun rq5 =>
  (atI rq5.1.2.1 (0 : Int)).bind fun _ =>
  (rq5.1.2.1[(0 : Int).toNat]?).bind fun xq6 =>
  (rq5.1.2.1[(0 : Int).toNat]?).bind fun xq7 =>
  (atI a1.2.1 (0 : Int)).bind fun xq8 =>
  (rq5.1.2.1[(0 : Int).toNat]?).bind fun xq9 =>
  (zz13 big xq9.2.1 xq8.2.1).bind fun rq10 =>
  cond (!rq10.1)
  (some (((([] : Y3), ()), false, ()), (())))
  ((atI rq5.1.2.1 (1 : Int)).bind fun _ =>
  (rq5.1.2.1[(1 : Int).toNat]?).bind fun xq11 =>
  (rq5.1.2.1[(1 : Int).toNat]?).bind fun xq12 =>
  (atI a1.2.1 (1 : Int)).bind fun xq13 =>
  (rq5.1.2.1[(1 : Int).toNat]?).bind fun xq14 =>
  (zz13 big xq14.2.1 xq13.2.1).bind fun rq15 =>
  cond (!rq15.1)
  (some (((([] : Y3), ()), false, ()), (())))
  (some ((p4, true, ()), (())))))
def zz35_s (L5 : Y7 → Y2 → Y2 → Int → Option ((Y2 × (Bool × Unit)) × Unit)) (a_0 : Y7) : Option ((Y2 × (Bool × Unit)) × Unit) :=
  (zz11 big a_0).bind fun rq1 =>
  cond (!rq1.1)
  (some (((([] : Y3), ()), false, ()), (())))
  ((zz12 big a_0).bind fun rq2 =>
  (zz13 big rq2.1 [(2 : Int), (2 : Int)]).bind fun rq3 =>
  cond (!rq3.1)
  (some (((([] : Y3), ()), false, ()), (())))
  (L5 a_0 (([] : Y3), ()) ([], ()) (0 : Int)))
def zz35_l9 (N : Nat) (k : Y7 → Y2 → Y2 → Int → Y4 → Option ((Y2 × (Bool × Unit)) × Unit)) : Nat → Y7 → Y2 → Y2 → Int → Y4 → Int → Option ((Y2 × (Bool × Unit)) × Unit)
  | 0, _, _, _, _, _, _ => none
  | m + 1, a1, t2, p4, y5, below6, x7 => zz35_b9 (zz35_l9 N k m) k a1 t2 p4 y5 below6 x7
def zz35_F9 (N : Nat) (rec : Y7 → Y2 → Y2 → Int → Option ((Y2 × (Bool × Unit)) × Unit)) (k : Y7 → Y2 → Y2 → Option ((Y2 × (Bool × Unit)) × Unit)) (a1 : Y7) (t2 : Y2) (p4 : Y2) (y5 : Int) (below6 : Y4) (x7 : Int) : Option ((Y2 × (Bool × Unit)) × Unit) := zz35_l9 N (zz35_a9 rec) N a1 t2 p4 y5 below6 x7
def zz35_l5 (N : Nat) (k : Y7 → Y2 → Y2 → Option ((Y2 × (Bool × Unit)) × Unit)) : Nat → Y7 → Y2 → Y2 → Int → Option ((Y2 × (Bool × Unit)) × Unit)
  | 0, _, _, _, _ => none
  | m + 1, a1, t2, p4, y5 => zz35_b5 (zz35_F9 N (zz35_l5 N k m) k) k a1 t2 p4 y5
def zz35_F5 (N : Nat) (a1 : Y7) (t2 : Y2) (p4 : Y2) (y5 : Int) : Option ((Y2 × (Bool × Unit)) × Unit) := zz35_l5 N (zz35_a5) N a1 t2 p4 y5
def zz35 (N : Nat) (a_0 : Y7) : Option ((Y2 × (Bool × Unit)) × Unit) := zz35_s (zz35_F5 N) a_0
def S_zz35 : Sig := { a := (.pair (.pair I (.pair (.sl (.pair I (.pair (.sl I) .unit))) .unit)) .unit), md := [0], mf := [], m := .unit, r := (.tup (.pair (.pair (.sl (.sl I)) .unit) (.pair .bool .unit))), rf := (.p (.p (.o (.o .i)) .i) .i), f := fun x => zz35 big x.1 }
def A_zz35 : Cfg := mkCfg tab [(57, S_zz11), (59, S_zz12), (58, S_zz13), (61, S_zz31), (62, S_zz34), (60, S_zz14)] [(10, [.drop, .as (.ptr (.pair I (.pair (.sl (.pair I (.pair (.sl I) .unit))) .unit))) (.o .i), .as (.ptr (.pair (.sl (.sl I)) .unit)) (.o (.p (.o (.o .i)) .i)), .drop, .as (.ptr (.pair (.sl (.sl I)) .unit)) (.o (.p (.o (.o .i)) .i)), .as I .i]), (18, [.drop, .as (.ptr (.pair I (.pair (.sl (.pair I (.pair (.sl I) .unit))) .unit))) (.o .i), .as (.ptr (.pair (.sl (.sl I)) .unit)) (.o (.p (.o (.o .i)) .i)), .drop, .as (.ptr (.pair (.sl (.sl I)) .unit)) (.o (.p (.o (.o .i)) .i)), .as I .i, .as (.sl I) (.o .i), .as I .i]), (29, [.drop, .as (.ptr (.pair I (.pair (.sl (.pair I (.pair (.sl I) .unit))) .unit))) (.o .i), .as (.ptr (.pair (.sl (.sl I)) .unit)) (.o (.p (.o (.o .i)) .i)), .drop, .as (.ptr (.pair (.sl (.sl I)) .unit)) (.o (.p (.o (.o .i)) .i))]), (27, [.drop, .as (.ptr (.pair I (.pair (.sl (.pair I (.pair (.sl I) .unit))) .unit))) (.o .i), .as (.ptr (.pair (.sl (.sl I)) .unit)) (.o (.p (.o (.o .i)) .i)), .drop, .as (.ptr (.pair (.sl (.sl I)) .unit)) (.o (.p (.o (.o .i)) .i)), .as I .i, .as (.sl I) (.o .i)])]
noncomputable def zz35_R5 (N n : Nat) (K : Ex → St → Option ((Y2 × (Bool × Unit)) × Unit)) (a1 : Y7) (t2 : Y2) (p4 : Y2) (y5 : Int) : Option ((Y2 × (Bool × Unit)) × Unit) := iter ((A_zz35).shape 10) (run (A_zz35) N (codeAt Try.f28 [1, 1, 1, 0, 1, 0, 0])) n ([.u, .val (.ptr (.pair I (.pair (.sl (.pair I (.pair (.sl I) .unit))) .unit))) (.o .i) a1, .val (.ptr (.pair (.sl (.sl I)) .unit)) (.o (.p (.o (.o .i)) .i)) t2, .u, .val (.ptr (.pair (.sl (.sl I)) .unit)) (.o (.p (.o (.o .i)) .i)) p4, .val I .i y5] ++ List.replicate 80 .u) K
noncomputable def zz35_R9 (N n : Nat) (K : Ex → St → Option ((Y2 × (Bool × Unit)) × Unit)) (a1 : Y7) (t2 : Y2) (p4 : Y2) (y5 : Int) (below6 : Y4) (x7 : Int) : Option ((Y2 × (Bool × Unit)) × Unit) := iter ((A_zz35).shape 18) (run (A_zz35) N (codeAt Try.f28 [1, 1, 1, 0, 1, 0, 0, 1, 0, 0, 1, 0, 1, 0, 0])) n ([.u, .val (.ptr (.pair I (.pair (.sl (.pair I (.pair (.sl I) .unit))) .unit))) (.o .i) a1, .val (.ptr (.pair (.sl (.sl I)) .unit)) (.o (.p (.o (.o .i)) .i)) t2, .u, .val (.ptr (.pair (.sl (.sl I)) .unit)) (.o (.p (.o (.o .i)) .i)) p4, .val I .i y5, .val (.sl I) (.o .i) below6, .val I .i x7] ++ List.replicate 78 .u) K
noncomputable abbrev zz35_z : Ex → St → Option ((Y2 × (Bool × Unit)) × Unit) := finish (A_zz35) S_zz35 Try.f28.results.toList
noncomputable abbrev zz35_X5 (kX : St → Option ((Y2 × (Bool × Unit)) × Unit)) : Y7 → Y2 → Y2 → Option ((Y2 × (Bool × Unit)) × Unit) := fun (a1 : Y7) (t2 : Y2) (p4 : Y2) => kX ([.u, .val (.ptr (.pair I (.pair (.sl (.pair I (.pair (.sl I) .unit))) .unit))) (.o .i) a1, .val (.ptr (.pair (.sl (.sl I)) .unit)) (.o (.p (.o (.o .i)) .i)) t2, .u, .val (.ptr (.pair (.sl (.sl I)) .unit)) (.o (.p (.o (.o .i)) .i)) p4] ++ List.replicate 81 .u)
noncomputable abbrev zz35_E5 (kX : St → Option ((Y2 × (Bool × Unit)) × Unit)) (kO : Nat → St → Option ((Y2 × (Bool × Unit)) × Unit)) : Ex → St → Option ((Y2 × (Bool × Unit)) × Unit) := exK zz35_z 0 ((A_zz35).shape 29) kX kO
noncomputable abbrev zz35_X9 (kX : St → Option ((Y2 × (Bool × Unit)) × Unit)) : Y7 → Y2 → Y2 → Int → Y4 → Option ((Y2 × (Bool × Unit)) × Unit) := fun (a1 : Y7) (t2 : Y2) (p4 : Y2) (y5 : Int) (below6 : Y4) => kX ([.u, .val (.ptr (.pair I (.pair (.sl (.pair I (.pair (.sl I) .unit))) .unit))) (.o .i) a1, .val (.ptr (.pair (.sl (.sl I)) .unit)) (.o (.p (.o (.o .i)) .i)) t2, .u, .val (.ptr (.pair (.sl (.sl I)) .unit)) (.o (.p (.o (.o .i)) .i)) p4, .val I .i y5, .val (.sl I) (.o .i) below6] ++ List.replicate 79 .u)
noncomputable abbrev zz35_E9 (kX : St → Option ((Y2 × (Bool × Unit)) × Unit)) (kO : Nat → St → Option ((Y2 × (Bool × Unit)) × Unit)) : Ex → St → Option ((Y2 × (Bool × Unit)) × Unit) := exK zz35_z 2 ((A_zz35).shape 27) kX kO
theorem zz35_step9 (N : Nat) (m : Nat) (kX : St → Option ((Y2 × (Bool × Unit)) × Unit)) (kO : Nat → St → Option ((Y2 × (Bool × Unit)) × Unit)) (a1 : Y7) (t2 : Y2) (p4 : Y2) (y5 : Int) (below6 : Y4) (x7 : Int) : zz35_R9 N (m + 1) (zz35_E9 kX kO) a1 t2 p4 y5 below6 x7 = zz35_b9 (zz35_R9 N m (zz35_E9 kX kO)) (zz35_X9 kX) a1 t2 p4 y5 below6 x7 := by kernel_rfl
theorem zz35_iter9 (N : Nat) (kX : St → Option ((Y2 × (Bool × Unit)) × Unit)) (kO : Nat → St → Option ((Y2 × (Bool × Unit)) × Unit)) : ∀ (n : Nat) (a1 : Y7) (t2 : Y2) (p4 : Y2) (y5 : Int) (below6 : Y4) (x7 : Int), zz35_R9 N n (zz35_E9 kX kO) a1 t2 p4 y5 below6 x7 = zz35_l9 N (zz35_X9 kX) n a1 t2 p4 y5 below6 x7
  | 0, _, _, _, _, _, _ => rfl
  | m + 1, a1, t2, p4, y5, below6, x7 => by
    have hrec : zz35_R9 N m (zz35_E9 kX kO) = (zz35_l9 N (zz35_X9 kX) m) := (funext fun a1 => (funext fun t2 => (funext fun p4 => (funext fun y5 => (funext fun below6 => (funext fun x7 => zz35_iter9 N kX kO m a1 t2 p4 y5 below6 x7))))))
    refine (zz35_step9 N m kX kO a1 t2 p4 y5 below6 x7).trans ?_
    rw [hrec]
    rfl
noncomputable abbrev zz35_K9 (N : Nat) (m : Nat) (kX : St → Option ((Y2 × (Bool × Unit)) × Unit)) (kO : Nat → St → Option ((Y2 × (Bool × Unit)) × Unit)) : Ex → St → Option ((Y2 × (Bool × Unit)) × Unit) := (blockK 2 (seqK ((A_zz35).shape 27) (run (A_zz35) N (codeAt Try.f28 [1, 1, 1, 0, 1, 0, 0, 1, 0, 0, 1, 1])) (blockK 1 (seqK ((A_zz35).shape 13) (run (A_zz35) N (codeAt Try.f28 [1, 1, 1, 0, 1, 0, 0, 1, 1])) (iterK ((A_zz35).shape 10) (run (A_zz35) N (codeAt Try.f28 [1, 1, 1, 0, 1, 0, 0])) m (zz35_E5 kX kO))))))
noncomputable abbrev zz35_k9 (N : Nat) (m : Nat) (kX : St → Option ((Y2 × (Bool × Unit)) × Unit)) (kO : Nat → St → Option ((Y2 × (Bool × Unit)) × Unit)) : St → Option ((Y2 × (Bool × Unit)) × Unit) := fun st' => run (A_zz35) N (codeAt Try.f28 [1, 1, 1, 0, 1, 0, 0, 1, 0, 0, 1, 1]) st' (blockK 1 (seqK ((A_zz35).shape 13) (run (A_zz35) N (codeAt Try.f28 [1, 1, 1, 0, 1, 0, 0, 1, 1])) (iterK ((A_zz35).shape 10) (run (A_zz35) N (codeAt Try.f28 [1, 1, 1, 0, 1, 0, 0])) m (zz35_E5 kX kO))))
theorem zz35_after9 (N : Nat) (m : Nat) (kX : St → Option ((Y2 × (Bool × Unit)) × Unit)) (kO : Nat → St → Option ((Y2 × (Bool × Unit)) × Unit)) (a1 : Y7) (t2 : Y2) (p4 : Y2) (y5 : Int) (below6 : Y4) : zz35_X9 (zz35_k9 N m kX kO) a1 t2 p4 y5 below6 = zz35_a9 (zz35_R5 N m (zz35_E5 kX kO)) a1 t2 p4 y5 below6 := by kernel_rfl
theorem zz35_in9 (N : Nat) (m : Nat) (kX : St → Option ((Y2 × (Bool × Unit)) × Unit)) (kO : Nat → St → Option ((Y2 × (Bool × Unit)) × Unit)) (recF : Y7 → Y2 → Y2 → Int → Option ((Y2 × (Bool × Unit)) × Unit)) (hrec : zz35_R5 N m (zz35_E5 kX kO) = recF) (a1 : Y7) (t2 : Y2) (p4 : Y2) (y5 : Int) (below6 : Y4) (x7 : Int) : zz35_R9 N N (zz35_K9 N m kX kO) a1 t2 p4 y5 below6 x7 = zz35_F9 N recF (zz35_X5 kX) a1 t2 p4 y5 below6 x7 :=
  have h : zz35_X9 (zz35_k9 N m kX kO) = (zz35_a9 recF) := (funext fun a1 => (funext fun t2 => (funext fun p4 => (funext fun y5 => (funext fun below6 => (zz35_after9 N m kX kO a1 t2 p4 y5 below6).trans (by rw [hrec]))))))
  ((iter_ex (fun st => by kernel_rfl) (fun st => by kernel_rfl)).trans (zz35_iter9 N (zz35_k9 N m kX kO) (fun j st => (zz35_K9 N m kX kO) (.exit j) st) N a1 t2 p4 y5 below6 x7)).trans (congrArg (fun k => zz35_l9 N k N a1 t2 p4 y5 below6 x7) h)
theorem zz35_step5 (N : Nat) (m : Nat) (kX : St → Option ((Y2 × (Bool × Unit)) × Unit)) (kO : Nat → St → Option ((Y2 × (Bool × Unit)) × Unit)) (a1 : Y7) (t2 : Y2) (p4 : Y2) (y5 : Int) : zz35_R5 N (m + 1) (zz35_E5 kX kO) a1 t2 p4 y5 = zz35_b5 (zz35_R9 N N (zz35_K9 N m kX kO)) (zz35_X5 kX) a1 t2 p4 y5 := by kernel_rfl
theorem zz35_iter5 (N : Nat) (kX : St → Option ((Y2 × (Bool × Unit)) × Unit)) (kO : Nat → St → Option ((Y2 × (Bool × Unit)) × Unit)) : ∀ (n : Nat) (a1 : Y7) (t2 : Y2) (p4 : Y2) (y5 : Int), zz35_R5 N n (zz35_E5 kX kO) a1 t2 p4 y5 = zz35_l5 N (zz35_X5 kX) n a1 t2 p4 y5
  | 0, _, _, _, _ => rfl
  | m + 1, a1, t2, p4, y5 => by
    have hrec : zz35_R5 N m (zz35_E5 kX kO) = (zz35_l5 N (zz35_X5 kX) m) := (funext fun a1 => (funext fun t2 => (funext fun p4 => (funext fun y5 => zz35_iter5 N kX kO m a1 t2 p4 y5))))
    refine (zz35_step5 N m kX kO a1 t2 p4 y5).trans ?_
    rw [(funext fun a1 => (funext fun t2 => (funext fun p4 => (funext fun y5 => (funext fun below6 => (funext fun x7 => zz35_in9 N m kX kO (zz35_l5 N (zz35_X5 kX) m) hrec a1 t2 p4 y5 below6 x7))))))]
    rfl
noncomputable abbrev zz35_K5 (N : Nat) : Ex → St → Option ((Y2 × (Bool × Unit)) × Unit) := (blockK 0 (seqK ((A_zz35).shape 29) (run (A_zz35) N (codeAt Try.f28 [1, 1, 1, 1])) zz35_z))
noncomputable abbrev zz35_k5 (N : Nat) : St → Option ((Y2 × (Bool × Unit)) × Unit) := fun st' => run (A_zz35) N (codeAt Try.f28 [1, 1, 1, 1]) st' zz35_z
theorem zz35_after5 (N : Nat) (a1 : Y7) (t2 : Y2) (p4 : Y2) : zz35_X5 (zz35_k5 N) a1 t2 p4 = zz35_a5 a1 t2 p4 := by kernel_rfl
theorem zz35_in5 (N : Nat) (a1 : Y7) (t2 : Y2) (p4 : Y2) (y5 : Int) : zz35_R5 N N (zz35_K5 N) a1 t2 p4 y5 = zz35_F5 N a1 t2 p4 y5 :=
  have h : zz35_X5 (zz35_k5 N) = (zz35_a5) := (funext fun a1 => (funext fun t2 => (funext fun p4 => zz35_after5 N a1 t2 p4)))
  ((iter_ex (fun st => by kernel_rfl) (fun st => by kernel_rfl)).trans (zz35_iter5 N (zz35_k5 N) (fun j st => (zz35_K5 N) (.exit j) st) N a1 t2 p4 y5)).trans (congrArg (fun k => zz35_l5 N k N a1 t2 p4 y5) h)
theorem run0_zz35 (N : Nat) (x : (S_zz35).a.den) : runF (A_zz35) N Try.f28 S_zz35 x = (zz35_s (zz35_R5 N N (zz35_K5 N)) x.1) := by kernel_rfl
theorem run_zz35 (N : Nat) (x : (S_zz35).a.den) : runF (A_zz35) N Try.f28 S_zz35 x = zz35 N x.1 := by
  refine (run0_zz35 N x).trans ?_
  rw [(funext fun a1 => (funext fun t2 => (funext fun p4 => (funext fun y5 => zz35_in5 N a1 t2 p4 y5))))]
  rfl
theorem fn_zz35 : FnOk Try.prog 28 := ⟨_, Try.func28, by kernel_rfl, by kernel_rfl⟩
theorem good_zz35 : Gx.Good Try.prog 28 S_zz35 := good_of_run Try.func28 (of_decide_eq_true (by kernel_rfl)) fun x r h => ⟨A_zz35, big, mkCfg_ok tabOk, mkCfg_sigs (show SigsOk Try.prog [(57, S_zz11), (59, S_zz12), (58, S_zz13), (61, S_zz31), (62, S_zz34), (60, S_zz14)] from ⟨⟨fn_zz11, good_zz11⟩, ⟨fn_zz12, good_zz12⟩, ⟨fn_zz13, good_zz13⟩, ⟨fn_zz31, good_zz31⟩, ⟨fn_zz34, good_zz34⟩, ⟨fn_zz14, good_zz14⟩, trivial⟩), (run_zz35 big x).trans h⟩

/-! zz36 -/
def zz36_b2 (rec : Int → Int → Int → Option (Int × Unit)) (k : Int → Option (Int × Unit)) (n0 : Int) (k1 : Int) (p5 : Int) : Option (Int × Unit) :=
  cond (decide ((0 : Int) < k1))
  (rec n0 (IntKind.i64.wrap (k1 - (1 : Int))) (IntKind.i64.wrap (p5 * n0)))
  (k p5)
def zz36_a2 (p5 : Int) : Option (Int × Unit) :=
  some (p5, (()))
def zz36_s (L2 : Int → Int → Int → Option (Int × Unit)) (n_0 : Int) (k_1 : Int) : Option (Int × Unit) :=
  L2 n_0 k_1 (1 : Int)
def zz36_l2 (N : Nat) (k : Int → Option (Int × Unit)) : Nat → Int → Int → Int → Option (Int × Unit)
  | 0, _, _, _ => none
  | m + 1, n0, k1, p5 => zz36_b2 (zz36_l2 N k m) k n0 k1 p5
def zz36_F2 (N : Nat) (n0 : Int) (k1 : Int) (p5 : Int) : Option (Int × Unit) := zz36_l2 N (zz36_a2) N n0 k1 p5
def zz36 (N : Nat) (n_0 : Int) (k_1 : Int) : Option (Int × Unit) := zz36_s (zz36_F2 N) n_0 k_1
def S_zz36 : Sig := { a := (.pair I (.pair I .unit)), md := [0, 0], mf := [], m := .unit, r := I, rf := .i, f := fun x => zz36 big x.1 x.2.1 }
def A_zz36 : Cfg := mkCfg tab [] [(4, [.as I .i, .as I .i, .drop, .drop, .drop, .as I .i]), (11, [.drop, .drop, .drop, .drop, .drop, .as I .i])]
noncomputable def zz36_R2 (N n : Nat) (K : Ex → St → Option (Int × Unit)) (n0 : Int) (k1 : Int) (p5 : Int) : Option (Int × Unit) := iter ((A_zz36).shape 4) (run (A_zz36) N (codeAt Try.f120 [1, 1, 0, 0, 0])) n ([.val I .i n0, .val I .i k1, .u, .u, .u, .val I .i p5] ++ List.replicate 8 .u) K
noncomputable abbrev zz36_z : Ex → St → Option (Int × Unit) := finish (A_zz36) S_zz36 Try.f120.results.toList
noncomputable abbrev zz36_X2 (kX : St → Option (Int × Unit)) : Int → Option (Int × Unit) := fun (p5 : Int) => kX ([.u, .u, .u, .u, .u, .val I .i p5] ++ List.replicate 8 .u)
noncomputable abbrev zz36_E2 (kX : St → Option (Int × Unit)) (kO : Nat → St → Option (Int × Unit)) : Ex → St → Option (Int × Unit) := exK zz36_z 0 ((A_zz36).shape 11) kX kO
theorem zz36_step2 (N : Nat) (m : Nat) (kX : St → Option (Int × Unit)) (kO : Nat → St → Option (Int × Unit)) (n0 : Int) (k1 : Int) (p5 : Int) : zz36_R2 N (m + 1) (zz36_E2 kX kO) n0 k1 p5 = zz36_b2 (zz36_R2 N m (zz36_E2 kX kO)) (zz36_X2 kX) n0 k1 p5 := by kernel_rfl
theorem zz36_iter2 (N : Nat) (kX : St → Option (Int × Unit)) (kO : Nat → St → Option (Int × Unit)) : ∀ (n : Nat) (n0 : Int) (k1 : Int) (p5 : Int), zz36_R2 N n (zz36_E2 kX kO) n0 k1 p5 = zz36_l2 N (zz36_X2 kX) n n0 k1 p5
  | 0, _, _, _ => rfl
  | m + 1, n0, k1, p5 => by
    have hrec : zz36_R2 N m (zz36_E2 kX kO) = (zz36_l2 N (zz36_X2 kX) m) := (funext fun n0 => (funext fun k1 => (funext fun p5 => zz36_iter2 N kX kO m n0 k1 p5)))
    refine (zz36_step2 N m kX kO n0 k1 p5).trans ?_
    rw [hrec]
    rfl
noncomputable abbrev zz36_K2 (N : Nat) : Ex → St → Option (Int × Unit) := (blockK 0 (seqK ((A_zz36).shape 11) (run (A_zz36) N (codeAt Try.f120 [1, 1, 1])) zz36_z))
noncomputable abbrev zz36_k2 (N : Nat) : St → Option (Int × Unit) := fun st' => run (A_zz36) N (codeAt Try.f120 [1, 1, 1]) st' zz36_z
theorem zz36_after2 (N : Nat) (p5 : Int) : zz36_X2 (zz36_k2 N) p5 = zz36_a2 p5 := by kernel_rfl
theorem zz36_in2 (N : Nat) (n0 : Int) (k1 : Int) (p5 : Int) : zz36_R2 N N (zz36_K2 N) n0 k1 p5 = zz36_F2 N n0 k1 p5 :=
  have h : zz36_X2 (zz36_k2 N) = (zz36_a2) := (funext fun p5 => zz36_after2 N p5)
  ((iter_ex (fun st => by kernel_rfl) (fun st => by kernel_rfl)).trans (zz36_iter2 N (zz36_k2 N) (fun j st => (zz36_K2 N) (.exit j) st) N n0 k1 p5)).trans (congrArg (fun k => zz36_l2 N k N n0 k1 p5) h)
theorem run0_zz36 (N : Nat) (x : (S_zz36).a.den) : runF (A_zz36) N Try.f120 S_zz36 x = (zz36_s (zz36_R2 N N (zz36_K2 N)) x.1 x.2.1) := by kernel_rfl
theorem run_zz36 (N : Nat) (x : (S_zz36).a.den) : runF (A_zz36) N Try.f120 S_zz36 x = zz36 N x.1 x.2.1 := by
  refine (run0_zz36 N x).trans ?_
  rw [(funext fun n0 => (funext fun k1 => (funext fun p5 => zz36_in2 N n0 k1 p5)))]
  rfl
theorem fn_zz36 : FnOk Try.prog 120 := ⟨_, Try.func120, by kernel_rfl, by kernel_rfl⟩
theorem good_zz36 : Gx.Good Try.prog 120 S_zz36 := good_of_run Try.func120 (of_decide_eq_true (by kernel_rfl)) fun x r h => ⟨A_zz36, big, mkCfg_ok tabOk, mkCfg_sigs (show SigsOk Try.prog [] from trivial), (run_zz36 big x).trans h⟩

/-! zz37 -/
def zz37_b2 (rec : Int → Y4 → Int → Int → Option (Bool × Unit)) (k : Option (Bool × Unit)) (n1 : Int) (t7 : Y4) (t8 : Int) (t9 : Int) : Option (Bool × Unit) :=
  cond (decide (t9 < t8))
  ((atI t7 t9).bind fun xq1 =>
  cond (decide (xq1 < (0 : Int)))
  (some (false, (())))
  (cond (decide (n1 ≤ xq1))
  (some (false, (())))
  (rec n1 t7 t8 (IntKind.i64.wrap (t9 + (1 : Int))))))
  (k)
def zz37_a2 : Option (Bool × Unit) :=
  some (true, (()))
def zz37_s (L2 : Int → Y4 → Int → Int → Option (Bool × Unit)) (list_0 : Y4) (n_1 : Int) : Option (Bool × Unit) :=
  L2 n_1 list_0 (list_0.length : Int) (0 : Int)
def zz37_l2 (N : Nat) (k : Option (Bool × Unit)) : Nat → Int → Y4 → Int → Int → Option (Bool × Unit)
  | 0, _, _, _, _ => none
  | m + 1, n1, t7, t8, t9 => zz37_b2 (zz37_l2 N k m) k n1 t7 t8 t9
def zz37_F2 (N : Nat) (n1 : Int) (t7 : Y4) (t8 : Int) (t9 : Int) : Option (Bool × Unit) := zz37_l2 N (zz37_a2) N n1 t7 t8 t9
def zz37 (N : Nat) (list_0 : Y4) (n_1 : Int) : Option (Bool × Unit) := zz37_s (zz37_F2 N) list_0 n_1
def S_zz37 : Sig := { a := (.pair (.sl I) (.pair I .unit)), md := [0, 0], mf := [], m := .unit, r := .bool, rf := .i, f := fun x => zz37 big x.1 x.2.1 }
def A_zz37 : Cfg := mkCfg tab [] [(4, [.drop, .as I .i, .drop, .drop, .drop, .drop, .drop, .as (.sl I) .i, .as I .i, .as I .i]), (15, [])]
noncomputable def zz37_R2 (N n : Nat) (K : Ex → St → Option (Bool × Unit)) (n1 : Int) (t7 : Y4) (t8 : Int) (t9 : Int) : Option (Bool × Unit) := iter ((A_zz37).shape 4) (run (A_zz37) N (codeAt Try.f113 [1, 0, 1, 0, 0])) n ([.u, .val I .i n1, .u, .u, .u, .u, .u, .val (.sl I) .i t7, .val I .i t8, .val I .i t9] ++ List.replicate 11 .u) K
noncomputable abbrev zz37_z : Ex → St → Option (Bool × Unit) := finish (A_zz37) S_zz37 Try.f113.results.toList
noncomputable abbrev zz37_X2 (kX : St → Option (Bool × Unit)) : Option (Bool × Unit) := kX ([] ++ List.replicate 21 .u)
noncomputable abbrev zz37_E2 (kX : St → Option (Bool × Unit)) (kO : Nat → St → Option (Bool × Unit)) : Ex → St → Option (Bool × Unit) := exK zz37_z 0 ((A_zz37).shape 15) kX kO
theorem zz37_step2 (N : Nat) (m : Nat) (kX : St → Option (Bool × Unit)) (kO : Nat → St → Option (Bool × Unit)) (n1 : Int) (t7 : Y4) (t8 : Int) (t9 : Int) : zz37_R2 N (m + 1) (zz37_E2 kX kO) n1 t7 t8 t9 = zz37_b2 (zz37_R2 N m (zz37_E2 kX kO)) (zz37_X2 kX) n1 t7 t8 t9 := by kernel_rfl
theorem zz37_iter2 (N : Nat) (kX : St → Option (Bool × Unit)) (kO : Nat → St → Option (Bool × Unit)) : ∀ (n : Nat) (n1 : Int) (t7 : Y4) (t8 : Int) (t9 : Int), zz37_R2 N n (zz37_E2 kX kO) n1 t7 t8 t9 = zz37_l2 N (zz37_X2 kX) n n1 t7 t8 t9
  | 0, _, _, _, _ => rfl
  | m + 1, n1, t7, t8, t9 => by
    have hrec : zz37_R2 N m (zz37_E2 kX kO) = (zz37_l2 N (zz37_X2 kX) m) := (funext fun n1 => (funext fun t7 => (funext fun t8 => (funext fun t9 => zz37_iter2 N kX kO m n1 t7 t8 t9))))
    refine (zz37_step2 N m kX kO n1 t7 t8 t9).trans ?_
    rw [hrec]
    rfl
noncomputable abbrev zz37_K2 (N : Nat) : Ex → St → Option (Bool × Unit) := (blockK 0 (seqK ((A_zz37).shape 15) (run (A_zz37) N (codeAt Try.f113 [1, 1])) zz37_z))
noncomputable abbrev zz37_k2 (N : Nat) : St → Option (Bool × Unit) := fun st' => run (A_zz37) N (codeAt Try.f113 [1, 1]) st' zz37_z
theorem zz37_after2 (N : Nat) : zz37_X2 (zz37_k2 N) = zz37_a2 := by kernel_rfl
theorem zz37_in2 (N : Nat) (n1 : Int) (t7 : Y4) (t8 : Int) (t9 : Int) : zz37_R2 N N (zz37_K2 N) n1 t7 t8 t9 = zz37_F2 N n1 t7 t8 t9 :=
  have h : zz37_X2 (zz37_k2 N) = (zz37_a2) := zz37_after2 N
  ((iter_ex (fun st => by kernel_rfl) (fun st => by kernel_rfl)).trans (zz37_iter2 N (zz37_k2 N) (fun j st => (zz37_K2 N) (.exit j) st) N n1 t7 t8 t9)).trans (congrArg (fun k => zz37_l2 N k N n1 t7 t8 t9) h)
theorem run0_zz37 (N : Nat) (x : (S_zz37).a.den) : runF (A_zz37) N Try.f113 S_zz37 x = (zz37_s (zz37_R2 N N (zz37_K2 N)) x.1 x.2.1) := by kernel_rfl
theorem run_zz37 (N : Nat) (x : (S_zz37).a.den) : runF (A_zz37) N Try.f113 S_zz37 x = zz37 N x.1 x.2.1 := by
  refine (run0_zz37 N x).trans ?_
  rw [(funext fun n1 => (funext fun t7 => (funext fun t8 => (funext fun t9 => zz37_in2 N n1 t7 t8 t9))))]
  rfl
theorem fn_zz37 : FnOk Try.prog 113 := ⟨_, Try.func113, by kernel_rfl, by kernel_rfl⟩
theorem good_zz37 : Gx.Good Try.prog 113 S_zz37 := good_of_run Try.func113 (of_decide_eq_true (by kernel_rfl)) fun x r h => ⟨A_zz37, big, mkCfg_ok tabOk, mkCfg_sigs (show SigsOk Try.prog [] from trivial), (run_zz37 big x).trans h⟩

/-! zz38 -/
def zz38_s (f_0 : Y6) (n_1 : Int) : Option (Bool × Unit) :=
  cond (decide ((0 : Int) ≤ f_0.1))
  (cond (decide (f_0.1 ≤ (3 : Int)))
  ((zz36 big n_1 f_0.1).bind fun rq1 =>
  cond (decide ((f_0.2.1.length : Int) = rq1.1))
  ((zz37 big f_0.2.1 n_1).bind fun rq2 =>
  some (rq2.1, (())))
  (some (false, (()))))
  (some (false, (()))))
  (some (false, (())))
def zz38 (f_0 : Y6) (n_1 : Int) : Option (Bool × Unit) := zz38_s f_0 n_1
def S_zz38 : Sig := { a := (.pair (.pair I (.pair (.sl I) .unit)) (.pair I .unit)), md := [0, 0], mf := [], m := .unit, r := .bool, rf := .i, f := fun x => zz38 x.1 x.2.1 }
def A_zz38 : Cfg := mkCfg tab [(120, S_zz36), (113, S_zz37)] []
theorem run_zz38 (N : Nat) (x : (S_zz38).a.den) : runF (A_zz38) N Try.f97 S_zz38 x = zz38 x.1 x.2.1 := by kernel_rfl
theorem fn_zz38 : FnOk Try.prog 97 := ⟨_, Try.func97, by kernel_rfl, by kernel_rfl⟩
theorem good_zz38 : Gx.Good Try.prog 97 S_zz38 := good_of_run Try.func97 (of_decide_eq_true (by kernel_rfl)) fun x r h => ⟨A_zz38, big, mkCfg_ok tabOk, mkCfg_sigs (show SigsOk Try.prog [(120, S_zz36), (113, S_zz37)] from ⟨⟨fn_zz36, good_zz36⟩, ⟨fn_zz37, good_zz37⟩, trivial⟩), (run_zz38 big x).trans h⟩

/-! zz39 -/
def zz39_b4 (rec : Y7 → (List Y6) → Int → Int → Option (Bool × Unit)) (k : Option (Bool × Unit)) (a1 : Y7) (t20 : (List Y6)) (t21 : Int) (t22 : Int) : Option (Bool × Unit) :=
  cond (decide (t22 < t21))
  ((atI t20 t22).bind fun xq1 =>
  (zz38 xq1 a1.1).bind fun rq2 =>
  cond (!rq2.1)
  (some (false, (())))
  (rec a1 t20 t21 (IntKind.i64.wrap (t22 + (1 : Int)))))
  (k)
def zz39_a4 : Option (Bool × Unit) :=
  some (true, (()))
def zz39_s (L4 : Y7 → (List Y6) → Int → Int → Option (Bool × Unit)) (a_0 : Y7) : Option (Bool × Unit) :=
  cond (decide (a_0.1 < (1 : Int)))
  (some (false, (())))
  (cond (decide ((8 : Int) < a_0.1))
  (some (false, (())))
  (cond (decide ((4 : Int) < (a_0.2.1.length : Int)))
  (some (false, (())))
  (L4 a_0 a_0.2.1 (a_0.2.1.length : Int) (0 : Int))))
def zz39_l4 (N : Nat) (k : Option (Bool × Unit)) : Nat → Y7 → (List Y6) → Int → Int → Option (Bool × Unit)
  | 0, _, _, _, _ => none
  | m + 1, a1, t20, t21, t22 => zz39_b4 (zz39_l4 N k m) k a1 t20 t21 t22
def zz39_F4 (N : Nat) (a1 : Y7) (t20 : (List Y6)) (t21 : Int) (t22 : Int) : Option (Bool × Unit) := zz39_l4 N (zz39_a4) N a1 t20 t21 t22
def zz39 (N : Nat) (a_0 : Y7) : Option (Bool × Unit) := zz39_s (zz39_F4 N) a_0
def S_zz39 : Sig := { a := (.pair (.pair I (.pair (.sl (.pair I (.pair (.sl I) .unit))) .unit)) .unit), md := [0], mf := [], m := .unit, r := .bool, rf := .i, f := fun x => zz39 big x.1 }
def A_zz39 : Cfg := mkCfg tab [(97, S_zz38)] [(8, [.drop, .as (.ptr (.pair I (.pair (.sl (.pair I (.pair (.sl I) .unit))) .unit))) (.o .i), .drop, .drop, .drop, .drop, .drop, .drop, .drop, .drop, .drop, .drop, .drop, .drop, .drop, .drop, .drop, .drop, .drop, .drop, .as (.sl (.pair I (.pair (.sl I) .unit))) .i, .as I .i, .as I .i]), (19, [])]
noncomputable def zz39_R4 (N n : Nat) (K : Ex → St → Option (Bool × Unit)) (a1 : Y7) (t20 : (List Y6)) (t21 : Int) (t22 : Int) : Option (Bool × Unit) := iter ((A_zz39).shape 8) (run (A_zz39) N (codeAt Try.f64 [1, 1, 0, 1, 0, 0])) n ([.u, .val (.ptr (.pair I (.pair (.sl (.pair I (.pair (.sl I) .unit))) .unit))) (.o .i) a1, .u, .u, .u, .u, .u, .u, .u, .u, .u, .u, .u, .u, .u, .u, .u, .u, .u, .u, .val (.sl (.pair I (.pair (.sl I) .unit))) .i t20, .val I .i t21, .val I .i t22] ++ List.replicate 9 .u) K
noncomputable abbrev zz39_z : Ex → St → Option (Bool × Unit) := finish (A_zz39) S_zz39 Try.f64.results.toList
noncomputable abbrev zz39_X4 (kX : St → Option (Bool × Unit)) : Option (Bool × Unit) := kX ([] ++ List.replicate 32 .u)
noncomputable abbrev zz39_E4 (kX : St → Option (Bool × Unit)) (kO : Nat → St → Option (Bool × Unit)) : Ex → St → Option (Bool × Unit) := exK zz39_z 0 ((A_zz39).shape 19) kX kO
theorem zz39_step4 (N : Nat) (m : Nat) (kX : St → Option (Bool × Unit)) (kO : Nat → St → Option (Bool × Unit)) (a1 : Y7) (t20 : (List Y6)) (t21 : Int) (t22 : Int) : zz39_R4 N (m + 1) (zz39_E4 kX kO) a1 t20 t21 t22 = zz39_b4 (zz39_R4 N m (zz39_E4 kX kO)) (zz39_X4 kX) a1 t20 t21 t22 := by kernel_rfl
theorem zz39_iter4 (N : Nat) (kX : St → Option (Bool × Unit)) (kO : Nat → St → Option (Bool × Unit)) : ∀ (n : Nat) (a1 : Y7) (t20 : (List Y6)) (t21 : Int) (t22 : Int), zz39_R4 N n (zz39_E4 kX kO) a1 t20 t21 t22 = zz39_l4 N (zz39_X4 kX) n a1 t20 t21 t22
  | 0, _, _, _, _ => rfl
  | m + 1, a1, t20, t21, t22 => by
    have hrec : zz39_R4 N m (zz39_E4 kX kO) = (zz39_l4 N (zz39_X4 kX) m) := (funext fun a1 => (funext fun t20 => (funext fun t21 => (funext fun t22 => zz39_iter4 N kX kO m a1 t20 t21 t22))))
    refine (zz39_step4 N m kX kO a1 t20 t21 t22).trans ?_
    rw [hrec]
    rfl
noncomputable abbrev zz39_K4 (N : Nat) : Ex → St → Option (Bool × Unit) := (blockK 0 (seqK ((A_zz39).shape 19) (run (A_zz39) N (codeAt Try.f64 [1, 1, 1])) zz39_z))
noncomputable abbrev zz39_k4 (N : Nat) : St → Option (Bool × Unit) := fun st' => run (A_zz39) N (codeAt Try.f64 [1, 1, 1]) st' zz39_z
theorem zz39_after4 (N : Nat) : zz39_X4 (zz39_k4 N) = zz39_a4 := by kernel_rfl
theorem zz39_in4 (N : Nat) (a1 : Y7) (t20 : (List Y6)) (t21 : Int) (t22 : Int) : zz39_R4 N N (zz39_K4 N) a1 t20 t21 t22 = zz39_F4 N a1 t20 t21 t22 :=
  have h : zz39_X4 (zz39_k4 N) = (zz39_a4) := zz39_after4 N
  ((iter_ex (fun st => by kernel_rfl) (fun st => by kernel_rfl)).trans (zz39_iter4 N (zz39_k4 N) (fun j st => (zz39_K4 N) (.exit j) st) N a1 t20 t21 t22)).trans (congrArg (fun k => zz39_l4 N k N a1 t20 t21 t22) h)
theorem run0_zz39 (N : Nat) (x : (S_zz39).a.den) : runF (A_zz39) N Try.f64 S_zz39 x = (zz39_s (zz39_R4 N N (zz39_K4 N)) x.1) := by kernel_rfl
theorem run_zz39 (N : Nat) (x : (S_zz39).a.den) : runF (A_zz39) N Try.f64 S_zz39 x = zz39 N x.1 := by
  refine (run0_zz39 N x).trans ?_
  rw [(funext fun a1 => (funext fun t20 => (funext fun t21 => (funext fun t22 => zz39_in4 N a1 t20 t21 t22))))]
  rfl
theorem fn_zz39 : FnOk Try.prog 64 := ⟨_, Try.func64, by kernel_rfl, by kernel_rfl⟩
theorem good_zz39 : Gx.Good Try.prog 64 S_zz39 := good_of_run Try.func64 (of_decide_eq_true (by kernel_rfl)) fun x r h => ⟨A_zz39, big, mkCfg_ok tabOk, mkCfg_sigs (show SigsOk Try.prog [(97, S_zz38)] from ⟨⟨fn_zz38, good_zz38⟩, trivial⟩), (run_zz39 big x).trans h⟩

/-! zz40 -/
def zz40_b3 (rec : Y4 → (List Y6) → Int → Int → Option (Y4 × Unit)) (k : Y4 → Option (Y4 × Unit)) (list3 : Y4) (t8 : (List Y6)) (t9 : Int) (t10 : Int) : Option (Y4 × Unit) :=
  cond (decide (t10 < t9))
  ((atI t8 t10).bind fun xq1 =>
  (appI list3 [xq1.1]).bind fun xq2 =>
  rec xq2 t8 t9 (IntKind.i64.wrap (t10 + (1 : Int))))
  (k list3)
def zz40_a3 (list3 : Y4) : Option (Y4 × Unit) :=
  some (list3, (()))
def zz40_s (L3 : Y4 → (List Y6) → Int → Int → Option (Y4 × Unit)) (a_0 : Y7) : Option (Y4 × Unit) :=
  L3 [] a_0.2.1 (a_0.2.1.length : Int) (0 : Int)
def zz40_l3 (N : Nat) (k : Y4 → Option (Y4 × Unit)) : Nat → Y4 → (List Y6) → Int → Int → Option (Y4 × Unit)
  | 0, _, _, _, _ => none
  | m + 1, list3, t8, t9, t10 => zz40_b3 (zz40_l3 N k m) k list3 t8 t9 t10
def zz40_F3 (N : Nat) (list3 : Y4) (t8 : (List Y6)) (t9 : Int) (t10 : Int) : Option (Y4 × Unit) := zz40_l3 N (zz40_a3) N list3 t8 t9 t10
def zz40 (N : Nat) (a_0 : Y7) : Option (Y4 × Unit) := zz40_s (zz40_F3 N) a_0
def S_zz40 : Sig := { a := (.pair (.pair I (.pair (.sl (.pair I (.pair (.sl I) .unit))) .unit)) .unit), md := [0], mf := [], m := .unit, r := (.sl I), rf := (.o .i), f := fun x => zz40 big x.1 }
def A_zz40 : Cfg := mkCfg tab [] [(6, [.drop, .drop, .drop, .as (.sl I) (.o .i), .drop, .drop, .drop, .drop, .as (.sl (.pair I (.pair (.sl I) .unit))) .i, .as I .i, .as I .i]), (15, [.drop, .drop, .drop, .as (.sl I) (.o .i)])]
noncomputable def zz40_R3 (N n : Nat) (K : Ex → St → Option (Y4 × Unit)) (list3 : Y4) (t8 : (List Y6)) (t9 : Int) (t10 : Int) : Option (Y4 × Unit) := iter ((A_zz40).shape 6) (run (A_zz40) N (codeAt Try.f66 [1, 1, 0, 1, 0, 0])) n ([.u, .u, .u, .val (.sl I) (.o .i) list3, .u, .u, .u, .u, .val (.sl (.pair I (.pair (.sl I) .unit))) .i t8, .val I .i t9, .val I .i t10] ++ List.replicate 10 .u) K
noncomputable abbrev zz40_z : Ex → St → Option (Y4 × Unit) := finish (A_zz40) S_zz40 Try.f66.results.toList
noncomputable abbrev zz40_X3 (kX : St → Option (Y4 × Unit)) : Y4 → Option (Y4 × Unit) := fun (list3 : Y4) => kX ([.u, .u, .u, .val (.sl I) (.o .i) list3] ++ List.replicate 17 .u)
noncomputable abbrev zz40_E3 (kX : St → Option (Y4 × Unit)) (kO : Nat → St → Option (Y4 × Unit)) : Ex → St → Option (Y4 × Unit) := exK zz40_z 0 ((A_zz40).shape 15) kX kO
theorem zz40_step3 (N : Nat) (m : Nat) (kX : St → Option (Y4 × Unit)) (kO : Nat → St → Option (Y4 × Unit)) (list3 : Y4) (t8 : (List Y6)) (t9 : Int) (t10 : Int) : zz40_R3 N (m + 1) (zz40_E3 kX kO) list3 t8 t9 t10 = zz40_b3 (zz40_R3 N m (zz40_E3 kX kO)) (zz40_X3 kX) list3 t8 t9 t10 := by kernel_rfl
theorem zz40_iter3 (N : Nat) (kX : St → Option (Y4 × Unit)) (kO : Nat → St → Option (Y4 × Unit)) : ∀ (n : Nat) (list3 : Y4) (t8 : (List Y6)) (t9 : Int) (t10 : Int), zz40_R3 N n (zz40_E3 kX kO) list3 t8 t9 t10 = zz40_l3 N (zz40_X3 kX) n list3 t8 t9 t10
  | 0, _, _, _, _ => rfl
  | m + 1, list3, t8, t9, t10 => by
    have hrec : zz40_R3 N m (zz40_E3 kX kO) = (zz40_l3 N (zz40_X3 kX) m) := (funext fun list3 => (funext fun t8 => (funext fun t9 => (funext fun t10 => zz40_iter3 N kX kO m list3 t8 t9 t10))))
    refine (zz40_step3 N m kX kO list3 t8 t9 t10).trans ?_
    rw [hrec]
    rfl
noncomputable abbrev zz40_K3 (N : Nat) : Ex → St → Option (Y4 × Unit) := (blockK 0 (seqK ((A_zz40).shape 15) (run (A_zz40) N (codeAt Try.f66 [1, 1, 1])) zz40_z))
noncomputable abbrev zz40_k3 (N : Nat) : St → Option (Y4 × Unit) := fun st' => run (A_zz40) N (codeAt Try.f66 [1, 1, 1]) st' zz40_z
theorem zz40_after3 (N : Nat) (list3 : Y4) : zz40_X3 (zz40_k3 N) list3 = zz40_a3 list3 := by kernel_rfl
theorem zz40_in3 (N : Nat) (list3 : Y4) (t8 : (List Y6)) (t9 : Int) (t10 : Int) : zz40_R3 N N (zz40_K3 N) list3 t8 t9 t10 = zz40_F3 N list3 t8 t9 t10 :=
  have h : zz40_X3 (zz40_k3 N) = (zz40_a3) := (funext fun list3 => zz40_after3 N list3)
  ((iter_ex (fun st => by kernel_rfl) (fun st => by kernel_rfl)).trans (zz40_iter3 N (zz40_k3 N) (fun j st => (zz40_K3 N) (.exit j) st) N list3 t8 t9 t10)).trans (congrArg (fun k => zz40_l3 N k N list3 t8 t9 t10) h)
theorem run0_zz40 (N : Nat) (x : (S_zz40).a.den) : runF (A_zz40) N Try.f66 S_zz40 x = (zz40_s (zz40_R3 N N (zz40_K3 N)) x.1) := by kernel_rfl
theorem run_zz40 (N : Nat) (x : (S_zz40).a.den) : runF (A_zz40) N Try.f66 S_zz40 x = zz40 N x.1 := by
  refine (run0_zz40 N x).trans ?_
  rw [(funext fun list3 => (funext fun t8 => (funext fun t9 => (funext fun t10 => zz40_in3 N list3 t8 t9 t10))))]
  rfl
theorem fn_zz40 : FnOk Try.prog 66 := ⟨_, Try.func66, by kernel_rfl, by kernel_rfl⟩
theorem good_zz40 : Gx.Good Try.prog 66 S_zz40 := good_of_run Try.func66 (of_decide_eq_true (by kernel_rfl)) fun x r h => ⟨A_zz40, big, mkCfg_ok tabOk, mkCfg_sigs (show SigsOk Try.prog [] from trivial), (run_zz40 big x).trans h⟩

/-! zz41 -/
def zz41_b4 (rec : Y4 → Y4 → Int → Int → Option (Bool × Unit)) (k : Option (Bool × Unit)) (b1 : Y4) (t12 : Y4) (t13 : Int) (t14 : Int) : Option (Bool × Unit) :=
  cond (decide (t14 < t13))
  ((atI t12 t14).bind fun xq1 =>
  (atI b1 t14).bind fun xq2 =>
  cond (decide (xq2 ≠ xq1))
  (some (false, (())))
  (rec b1 t12 t13 (IntKind.i64.wrap (t14 + (1 : Int)))))
  (k)
def zz41_a4 : Option (Bool × Unit) :=
  some (true, (()))
def zz41_s (L4 : Y4 → Y4 → Int → Int → Option (Bool × Unit)) (a_0 : Y4) (b_1 : Y4) : Option (Bool × Unit) :=
  cond (decide ((a_0.length : Int) ≠ (b_1.length : Int)))
  (some (false, (())))
  (L4 b_1 a_0 (a_0.length : Int) (0 : Int))
def zz41_l4 (N : Nat) (k : Option (Bool × Unit)) : Nat → Y4 → Y4 → Int → Int → Option (Bool × Unit)
  | 0, _, _, _, _ => none
  | m + 1, b1, t12, t13, t14 => zz41_b4 (zz41_l4 N k m) k b1 t12 t13 t14
def zz41_F4 (N : Nat) (b1 : Y4) (t12 : Y4) (t13 : Int) (t14 : Int) : Option (Bool × Unit) := zz41_l4 N (zz41_a4) N b1 t12 t13 t14
def zz41 (N : Nat) (a_0 : Y4) (b_1 : Y4) : Option (Bool × Unit) := zz41_s (zz41_F4 N) a_0 b_1
def S_zz41 : Sig := { a := (.pair (.sl I) (.pair (.sl I) .unit)), md := [0, 0], mf := [], m := .unit, r := .bool, rf := .i, f := fun x => zz41 big x.1 x.2.1 }
def A_zz41 : Cfg := mkCfg tab [] [(8, [.drop, .as (.sl I) .i, .drop, .drop, .drop, .drop, .drop, .drop, .drop, .drop, .drop, .drop, .as (.sl I) .i, .as I .i, .as I .i]), (19, [])]
noncomputable def zz41_R4 (N n : Nat) (K : Ex → St → Option (Bool × Unit)) (b1 : Y4) (t12 : Y4) (t13 : Int) (t14 : Int) : Option (Bool × Unit) := iter ((A_zz41).shape 8) (run (A_zz41) N (codeAt Try.f65 [1, 1, 0, 1, 0, 0])) n ([.u, .val (.sl I) .i b1, .u, .u, .u, .u, .u, .u, .u, .u, .u, .u, .val (.sl I) .i t12, .val I .i t13, .val I .i t14] ++ List.replicate 11 .u) K
noncomputable abbrev zz41_z : Ex → St → Option (Bool × Unit) := finish (A_zz41) S_zz41 Try.f65.results.toList
noncomputable abbrev zz41_X4 (kX : St → Option (Bool × Unit)) : Option (Bool × Unit) := kX ([] ++ List.replicate 26 .u)
noncomputable abbrev zz41_E4 (kX : St → Option (Bool × Unit)) (kO : Nat → St → Option (Bool × Unit)) : Ex → St → Option (Bool × Unit) := exK zz41_z 0 ((A_zz41).shape 19) kX kO
theorem zz41_step4 (N : Nat) (m : Nat) (kX : St → Option (Bool × Unit)) (kO : Nat → St → Option (Bool × Unit)) (b1 : Y4) (t12 : Y4) (t13 : Int) (t14 : Int) : zz41_R4 N (m + 1) (zz41_E4 kX kO) b1 t12 t13 t14 = zz41_b4 (zz41_R4 N m (zz41_E4 kX kO)) (zz41_X4 kX) b1 t12 t13 t14 := by kernel_rfl
theorem zz41_iter4 (N : Nat) (kX : St → Option (Bool × Unit)) (kO : Nat → St → Option (Bool × Unit)) : ∀ (n : Nat) (b1 : Y4) (t12 : Y4) (t13 : Int) (t14 : Int), zz41_R4 N n (zz41_E4 kX kO) b1 t12 t13 t14 = zz41_l4 N (zz41_X4 kX) n b1 t12 t13 t14
  | 0, _, _, _, _ => rfl
  | m + 1, b1, t12, t13, t14 => by
    have hrec : zz41_R4 N m (zz41_E4 kX kO) = (zz41_l4 N (zz41_X4 kX) m) := (funext fun b1 => (funext fun t12 => (funext fun t13 => (funext fun t14 => zz41_iter4 N kX kO m b1 t12 t13 t14))))
    refine (zz41_step4 N m kX kO b1 t12 t13 t14).trans ?_
    rw [hrec]
    rfl
noncomputable abbrev zz41_K4 (N : Nat) : Ex → St → Option (Bool × Unit) := (blockK 0 (seqK ((A_zz41).shape 19) (run (A_zz41) N (codeAt Try.f65 [1, 1, 1])) zz41_z))
noncomputable abbrev zz41_k4 (N : Nat) : St → Option (Bool × Unit) := fun st' => run (A_zz41) N (codeAt Try.f65 [1, 1, 1]) st' zz41_z
theorem zz41_after4 (N : Nat) : zz41_X4 (zz41_k4 N) = zz41_a4 := by kernel_rfl
theorem zz41_in4 (N : Nat) (b1 : Y4) (t12 : Y4) (t13 : Int) (t14 : Int) : zz41_R4 N N (zz41_K4 N) b1 t12 t13 t14 = zz41_F4 N b1 t12 t13 t14 :=
  have h : zz41_X4 (zz41_k4 N) = (zz41_a4) := zz41_after4 N
  ((iter_ex (fun st => by kernel_rfl) (fun st => by kernel_rfl)).trans (zz41_iter4 N (zz41_k4 N) (fun j st => (zz41_K4 N) (.exit j) st) N b1 t12 t13 t14)).trans (congrArg (fun k => zz41_l4 N k N b1 t12 t13 t14) h)
theorem run0_zz41 (N : Nat) (x : (S_zz41).a.den) : runF (A_zz41) N Try.f65 S_zz41 x = (zz41_s (zz41_R4 N N (zz41_K4 N)) x.1 x.2.1) := by kernel_rfl
theorem run_zz41 (N : Nat) (x : (S_zz41).a.den) : runF (A_zz41) N Try.f65 S_zz41 x = zz41 N x.1 x.2.1 := by
  refine (run0_zz41 N x).trans ?_
  rw [(funext fun b1 => (funext fun t12 => (funext fun t13 => (funext fun t14 => zz41_in4 N b1 t12 t13 t14))))]
  rfl
theorem fn_zz41 : FnOk Try.prog 65 := ⟨_, Try.func65, by kernel_rfl, by kernel_rfl⟩
theorem good_zz41 : Gx.Good Try.prog 65 S_zz41 := good_of_run Try.func65 (of_decide_eq_true (by kernel_rfl)) fun x r h => ⟨A_zz41, big, mkCfg_ok tabOk, mkCfg_sigs (show SigsOk Try.prog [] from trivial), (run_zz41 big x).trans h⟩

/-! zz42 -/
def zz42_b3 (rec : Int → Y5 → Int → Int → Option (Y5 × Unit)) (k : Y5 → Option (Y5 × Unit)) (n0 : Int) (o3 : Y5) (t8 : Int) (t9 : Int) : Option (Y5 × Unit) :=
  cond (decide (t9 < t8))
  ((mkI false n0).bind fun xq3 => (mkI false n0).bind fun xq4 => cond (decide (n0 ≤ n0))
  ((atI o3 t9).bind fun _ =>
  (o3[t9.toNat]?).bind fun xq5 =>
  rec n0 (o3.set t9.toNat xq4) t8 (IntKind.i64.wrap (t9 + (1 : Int))))
  none)
  (k o3)
def zz42_a3 (o3 : Y5) : Option (Y5 × Unit) :=
  some (o3, (()))
def zz42_s (L3 : Int → Y5 → Int → Int → Option (Y5 × Unit)) (n_0 : Int) : Option (Y5 × Unit) :=
  (mkI ([] : (List Bool)) n_0).bind fun xq1 => (mkI ([] : (List Bool)) n_0).bind fun xq2 => cond (decide (n_0 ≤ n_0))
  (L3 n_0 xq2 (xq2.length : Int) (0 : Int))
  none
def zz42_l3 (N : Nat) (k : Y5 → Option (Y5 × Unit)) : Nat → Int → Y5 → Int → Int → Option (Y5 × Unit)
  | 0, _, _, _, _ => none
  | m + 1, n0, o3, t8, t9 => zz42_b3 (zz42_l3 N k m) k n0 o3 t8 t9
def zz42_F3 (N : Nat) (n0 : Int) (o3 : Y5) (t8 : Int) (t9 : Int) : Option (Y5 × Unit) := zz42_l3 N (zz42_a3) N n0 o3 t8 t9
def zz42 (N : Nat) (n_0 : Int) : Option (Y5 × Unit) := zz42_s (zz42_F3 N) n_0
def S_zz42 : Sig := { a := (.pair I .unit), md := [0], mf := [], m := .unit, r := (.sl (.sl .bool)), rf := (.o (.o .i)), f := fun x => zz42 big x.1 }
def A_zz42 : Cfg := mkCfg tab [] [(6, [.as I .i, .drop, .drop, .as (.sl (.sl .bool)) (.o (.o .i)), .drop, .drop, .drop, .drop, .as I .i, .as I .i]), (15, [.drop, .drop, .drop, .as (.sl (.sl .bool)) (.o (.o .i))])]
noncomputable def zz42_R3 (N n : Nat) (K : Ex → St → Option (Y5 × Unit)) (n0 : Int) (o3 : Y5) (t8 : Int) (t9 : Int) : Option (Y5 × Unit) := iter ((A_zz42).shape 6) (run (A_zz42) N (codeAt Try.f98 [1, 1, 0, 1, 0, 0])) n ([.val I .i n0, .u, .u, .val (.sl (.sl .bool)) (.o (.o .i)) o3, .u, .u, .u, .u, .val I .i t8, .val I .i t9] ++ List.replicate 9 .u) K
noncomputable abbrev zz42_z : Ex → St → Option (Y5 × Unit) := finish (A_zz42) S_zz42 Try.f98.results.toList
noncomputable abbrev zz42_X3 (kX : St → Option (Y5 × Unit)) : Y5 → Option (Y5 × Unit) := fun (o3 : Y5) => kX ([.u, .u, .u, .val (.sl (.sl .bool)) (.o (.o .i)) o3] ++ List.replicate 15 .u)
noncomputable abbrev zz42_E3 (kX : St → Option (Y5 × Unit)) (kO : Nat → St → Option (Y5 × Unit)) : Ex → St → Option (Y5 × Unit) := exK zz42_z 0 ((A_zz42).shape 15) kX kO
theorem zz42_step3 (N : Nat) (m : Nat) (kX : St → Option (Y5 × Unit)) (kO : Nat → St → Option (Y5 × Unit)) (n0 : Int) (o3 : Y5) (t8 : Int) (t9 : Int) : zz42_R3 N (m + 1) (zz42_E3 kX kO) n0 o3 t8 t9 = zz42_b3 (zz42_R3 N m (zz42_E3 kX kO)) (zz42_X3 kX) n0 o3 t8 t9 := by kernel_rfl
theorem zz42_iter3 (N : Nat) (kX : St → Option (Y5 × Unit)) (kO : Nat → St → Option (Y5 × Unit)) : ∀ (n : Nat) (n0 : Int) (o3 : Y5) (t8 : Int) (t9 : Int), zz42_R3 N n (zz42_E3 kX kO) n0 o3 t8 t9 = zz42_l3 N (zz42_X3 kX) n n0 o3 t8 t9
  | 0, _, _, _, _ => rfl
  | m + 1, n0, o3, t8, t9 => by
    have hrec : zz42_R3 N m (zz42_E3 kX kO) = (zz42_l3 N (zz42_X3 kX) m) := (funext fun n0 => (funext fun o3 => (funext fun t8 => (funext fun t9 => zz42_iter3 N kX kO m n0 o3 t8 t9))))
    refine (zz42_step3 N m kX kO n0 o3 t8 t9).trans ?_
    rw [hrec]
    rfl
noncomputable abbrev zz42_K3 (N : Nat) : Ex → St → Option (Y5 × Unit) := (blockK 0 (seqK ((A_zz42).shape 15) (run (A_zz42) N (codeAt Try.f98 [1, 1, 1])) zz42_z))
noncomputable abbrev zz42_k3 (N : Nat) : St → Option (Y5 × Unit) := fun st' => run (A_zz42) N (codeAt Try.f98 [1, 1, 1]) st' zz42_z
theorem zz42_after3 (N : Nat) (o3 : Y5) : zz42_X3 (zz42_k3 N) o3 = zz42_a3 o3 := by kernel_rfl
theorem zz42_in3 (N : Nat) (n0 : Int) (o3 : Y5) (t8 : Int) (t9 : Int) : zz42_R3 N N (zz42_K3 N) n0 o3 t8 t9 = zz42_F3 N n0 o3 t8 t9 :=
  have h : zz42_X3 (zz42_k3 N) = (zz42_a3) := (funext fun o3 => zz42_after3 N o3)
  ((iter_ex (fun st => by kernel_rfl) (fun st => by kernel_rfl)).trans (zz42_iter3 N (zz42_k3 N) (fun j st => (zz42_K3 N) (.exit j) st) N n0 o3 t8 t9)).trans (congrArg (fun k => zz42_l3 N k N n0 o3 t8 t9) h)
theorem run0_zz42 (N : Nat) (x : (S_zz42).a.den) : runF (A_zz42) N Try.f98 S_zz42 x = (zz42_s (zz42_R3 N N (zz42_K3 N)) x.1) := by kernel_rfl
theorem run_zz42 (N : Nat) (x : (S_zz42).a.den) : runF (A_zz42) N Try.f98 S_zz42 x = zz42 N x.1 := by
  refine (run0_zz42 N x).trans ?_
  rw [(funext fun n0 => (funext fun o3 => (funext fun t8 => (funext fun t9 => zz42_in3 N n0 o3 t8 t9))))]
  rfl
theorem fn_zz42 : FnOk Try.prog 98 := ⟨_, Try.func98, by kernel_rfl, by kernel_rfl⟩
theorem good_zz42 : Gx.Good Try.prog 98 S_zz42 := good_of_run Try.func98 (of_decide_eq_true (by kernel_rfl)) fun x r h => ⟨A_zz42, big, mkCfg_ok tabOk, mkCfg_sigs (show SigsOk Try.prog [] from trivial), (run_zz42 big x).trans h⟩
end Go.Proofs.Ytiklgbjlggcejaa
