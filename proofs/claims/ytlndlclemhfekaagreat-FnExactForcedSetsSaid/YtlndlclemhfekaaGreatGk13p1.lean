import Derived.Test.YtlndlclemhfekaaGreatGxBox
import Derived.Test.YtlndlclemhfekaaGreatRows
import Derived.Test.YtlndlclemhfekaaGreatChecked
import Derived.KernelRfl
set_option maxRecDepth 100000
set_option linter.unusedVariables false
namespace Go.Proofs.YtlndlclemhfekaaGreat
open Go Go.Gx Go.Proofs

abbrev I := Ty.int .i64
abbrev Y1 := (Option ((List (List Bool)) × ((List (List Int)) × ((List (List Int)) × Unit))))
abbrev Y2 := ((List (List Int)) × Unit)
abbrev Y7 := (Int × ((List (Int × ((List Int) × Unit))) × Unit))
abbrev Y6 := (Int × ((List Int) × Unit))
abbrev Y3 := (List (List Int))
abbrev Y4 := (List Int)
abbrev Y5 := (List (List Bool))
abbrev Z0 := Option (Bool × Unit)
abbrev Z1 := Option (Y4 × Unit)
abbrev Z2 := Option (Int × Unit)
abbrev Z3 := Option (Bool × (Y4 × Unit))
abbrev Z4 := Option ((Y3 × (Bool × Unit)) × Unit)
abbrev Z5 := Option ((Y5 × (Bool × Unit)) × Unit)
abbrev Z6 := Option (Y5 × Unit)
abbrev Z7 := Option (Y7 × Unit)
abbrev Z8 := Option (Y2 × Unit)
abbrev Z9 := (Int × (Int × Unit))
abbrev Z10 := Option (Y6 × Unit)
def tab : Tab := { es := [(22, (.sl I), (.o .i)), (41, I, .i), (55, (.sl .bool), (.o .i)), (68, (.pair I (.pair (.sl I) .unit)), (.p .i (.p (.o .i) .i))), (95, .bool, .i), (99, (.pair I (.pair I .unit)), .i)], ts := [(3, I, .i), (4, .bool, .i), (22, (.sl (.sl I)), (.o (.o .i))), (24, (.pair (.sl (.sl I)) .unit), (.p (.o (.o .i)) .i)), (28, (.pair (.sl (.sl I)) .unit), (.p (.o (.o .i)) .i)), (38, (.opt (.pair (.sl (.sl .bool)) (.pair (.sl (.sl I)) (.pair (.sl (.sl I)) .unit)))), .i), (41, (.sl I), (.o .i)), (55, (.sl (.sl .bool)), (.o (.o .i))), (57, (.pair (.sl (.sl .bool)) (.pair (.sl (.sl I)) (.pair (.sl (.sl I)) .unit))), (.p (.o (.o .i)) (.p (.o (.o .i)) (.p (.o (.o .i)) .i)))), (68, (.sl (.pair I (.pair (.sl I) .unit))), (.o (.p .i (.p (.o .i) .i)))), (70, (.pair I (.pair (.sl (.pair I (.pair (.sl I) .unit))) .unit)), (.p .i (.p (.o (.p .i (.p (.o .i) .i))) .i))), (93, (.pair I (.pair (.sl I) .unit)), (.p .i (.p (.o .i) .i))), (95, (.sl .bool), (.o .i)), (99, (.sl (.pair I (.pair I .unit))), (.o .i)), (100, (.pair I (.pair I .unit)), .i)], fs := [(24, [((.sl (.sl I)), (.o (.o .i)))]), (28, [((.sl (.sl I)), (.o (.o .i)))]), (57, [((.sl (.sl .bool)), (.o (.o .i))), ((.sl (.sl I)), (.o (.o .i))), ((.sl (.sl I)), (.o (.o .i)))]), (70, [(I, .i), ((.sl (.pair I (.pair (.sl I) .unit))), (.o (.p .i (.p (.o .i) .i))))]), (93, [(I, .i), ((.sl I), (.o .i))])], ars := [(100, I, .i, 2)] }
theorem tabOk : tab.chk Tryz.prog = true := by kernel_rfl

/-! zz0 -/
def zz0_s (a_0 : Y4) (left_1 : Int) : Z2 :=
  cond (decide ((IntKind.i64.wrap (left_1 - (a_0.length : Int))) < (0 : Int)))
  (some ((-1 : Int), (())))
  (some (IntKind.i64.wrap (left_1 - (a_0.length : Int)), (())))
def zz0 (a_0 : Y4) (left_1 : Int) : Z2 := zz0_s a_0 left_1
def S_zz0 : Sig := { a := (.pair (.sl I) (.pair I .unit)), md := [0, 0], mf := [], m := .unit, r := I, rf := .i, f := fun x => zz0 x.1 x.2.1 }
def A_zz0 : Cfg := mkCfg tab [] []
theorem run_zz0 (N : Nat) (x : (S_zz0).a.den) : runF (A_zz0) N Tryz.f27 S_zz0 x = zz0 x.1 x.2.1 := by kernel_rfl
theorem fn_zz0 : FnOk Tryz.prog 27 := ⟨_, Tryz.func27, by kernel_rfl, by kernel_rfl⟩
theorem good_zz0 : Gx.Good Tryz.prog 27 S_zz0 := good_of_run Tryz.func27 (of_decide_eq_true (by kernel_rfl)) fun x r h => ⟨A_zz0, big, mkCfg_ok tabOk, mkCfg_sigs (show SigsOk Tryz.prog [] from trivial), (run_zz0 big x).trans h⟩

/-! zz1 -/
def zz1_b5 (rec : Y3 → Int → Int → Z2) (k : Int → Z2) (a0 : Y3) (left1 i5 : Int) : Z2 :=
  cond (decide (i5 < (a0.length : Int)))
  ((atI a0 i5).bind fun xq1 =>
  (zz0 xq1 left1).bind fun rq2 =>
  cond (decide (rq2.1 < (0 : Int)))
  (some ((-1 : Int), (())))
  (rec a0 rq2.1 (IntKind.i64.wrap (i5 + (1 : Int)))))
  (k left1)
def zz1_a5 (left1 : Int) : Z2 :=
  some (left1, (()))
def zz1_s (L5 : Y3 → Int → Int → Z2) (a_0 : Y3) (left_1 : Int) : Z2 :=
  cond (decide ((IntKind.i64.wrap (left_1 - (a_0.length : Int))) < (0 : Int)))
  (some ((-1 : Int), (())))
  (L5 a_0 (IntKind.i64.wrap (left_1 - (a_0.length : Int))) (0 : Int))
def zz1_l5 (N : Nat) (k : Int → Z2) : Nat → Y3 → Int → Int → Z2
  | 0, _, _, _ => none
  | m + 1, a0, left1, i5 => zz1_b5 (zz1_l5 N k m) k a0 left1 i5
def zz1_F5 (N : Nat) (a0 : Y3) (left1 i5 : Int) : Z2 := zz1_l5 N (zz1_a5) N a0 left1 i5
def zz1 (N : Nat) (a_0 : Y3) (left_1 : Int) : Z2 := zz1_s (zz1_F5 N) a_0 left_1
def S_zz1 : Sig := { a := (.pair (.sl (.sl I)) (.pair I .unit)), md := [0, 0], mf := [], m := .unit, r := I, rf := .i, f := fun x => zz1 big x.1 x.2.1 }
def A_zz1 : Cfg := mkCfg tab [(27, S_zz0)] [(10, [.as (.sl (.sl I)) .i, .as I .i, .drop, .drop, .drop, .as I .i]), (21, [.drop, .as I .i])]
noncomputable def zz1_R5 (N n : Nat) (K : Ex → St → Z2) (a0 : Y3) (left1 i5 : Int) : Z2 := iter ((A_zz1).shape 10) (run (A_zz1) N (codeAt Tryz.f13 [1, 1, 1, 0, 1, 0, 0])) n ([.val (.sl (.sl I)) .i a0, .val I .i left1, .u, .u, .u, .val I .i i5] ++ List.replicate 21 .u) K
noncomputable abbrev zz1_z : Ex → St → Z2 := finish (A_zz1) S_zz1 Tryz.f13.results.toList
noncomputable abbrev zz1_X5 (kX : St → Z2) : Int → Z2 := fun (left1 : Int) => kX ([.u, .val I .i left1] ++ List.replicate 25 .u)
noncomputable abbrev zz1_E5 (kX : St → Z2) (kO : Nat → St → Z2) : Ex → St → Z2 := exK zz1_z 0 ((A_zz1).shape 21) kX kO
theorem zz1_step5 (N m : Nat) (kX : St → Z2) (kO : Nat → St → Z2) (a0 : Y3) (left1 i5 : Int) : zz1_R5 N (m + 1) (zz1_E5 kX kO) a0 left1 i5 = zz1_b5 (zz1_R5 N m (zz1_E5 kX kO)) (zz1_X5 kX) a0 left1 i5 := by kernel_rfl
theorem zz1_iter5 (N : Nat) (kX : St → Z2) (kO : Nat → St → Z2) : ∀ (n : Nat) (a0 : Y3) (left1 i5 : Int), zz1_R5 N n (zz1_E5 kX kO) a0 left1 i5 = zz1_l5 N (zz1_X5 kX) n a0 left1 i5
  | 0, _, _, _ => rfl
  | m + 1, a0, left1, i5 => by
    have hrec : zz1_R5 N m (zz1_E5 kX kO) = (zz1_l5 N (zz1_X5 kX) m) := (funext fun a0 => (funext fun left1 => (funext fun i5 => zz1_iter5 N kX kO m a0 left1 i5)))
    refine (zz1_step5 N m kX kO a0 left1 i5).trans ?_
    rw [hrec]
    rfl
noncomputable abbrev zz1_K5 (N : Nat) : Ex → St → Z2 := (blockK 0 (seqK ((A_zz1).shape 21) (run (A_zz1) N (codeAt Tryz.f13 [1, 1, 1, 1])) zz1_z))
noncomputable abbrev zz1_k5 (N : Nat) : St → Z2 := fun st' => run (A_zz1) N (codeAt Tryz.f13 [1, 1, 1, 1]) st' zz1_z
theorem zz1_after5 (N : Nat) (left1 : Int) : zz1_X5 (zz1_k5 N) left1 = zz1_a5 left1 := by kernel_rfl
theorem zz1_in5 (N : Nat) (a0 : Y3) (left1 i5 : Int) : zz1_R5 N N (zz1_K5 N) a0 left1 i5 = zz1_F5 N a0 left1 i5 :=
  have h : zz1_X5 (zz1_k5 N) = (zz1_a5) := (funext fun left1 => zz1_after5 N left1)
  ((iter_ex (fun st => by kernel_rfl) (fun st => by kernel_rfl)).trans (zz1_iter5 N (zz1_k5 N) (fun j st => (zz1_K5 N) (.exit j) st) N a0 left1 i5)).trans (congrArg (fun k => zz1_l5 N k N a0 left1 i5) h)
theorem run0_zz1 (N : Nat) (x : (S_zz1).a.den) : runF (A_zz1) N Tryz.f13 S_zz1 x = (zz1_s (zz1_R5 N N (zz1_K5 N)) x.1 x.2.1) := by kernel_rfl
theorem run_zz1 (N : Nat) (x : (S_zz1).a.den) : runF (A_zz1) N Tryz.f13 S_zz1 x = zz1 N x.1 x.2.1 := by
  refine (run0_zz1 N x).trans ?_
  rw [(funext fun a0 => (funext fun left1 => (funext fun i5 => zz1_in5 N a0 left1 i5)))]
  rfl
theorem fn_zz1 : FnOk Tryz.prog 13 := ⟨_, Tryz.func13, by kernel_rfl, by kernel_rfl⟩
theorem good_zz1 : Gx.Good Tryz.prog 13 S_zz1 := good_of_run Tryz.func13 (of_decide_eq_true (by kernel_rfl)) fun x r h => ⟨A_zz1, big, mkCfg_ok tabOk, mkCfg_sigs (show SigsOk Tryz.prog [(27, S_zz0)] from ⟨⟨fn_zz0, good_zz0⟩, trivial⟩), (run_zz1 big x).trans h⟩

/-! zz2 -/
def zz2_s (a_0 : Y2) (left_1 : Int) : Z2 :=
  (zz1 big a_0.1 left_1).bind fun rq1 =>
  cond (decide (rq1.1 < (0 : Int)))
  (some ((-1 : Int), (())))
  (some (rq1.1, (())))
def zz2 (a_0 : Y2) (left_1 : Int) : Z2 := zz2_s a_0 left_1
def S_zz2 : Sig := { a := (.pair (.pair (.sl (.sl I)) .unit) (.pair I .unit)), md := [0, 0], mf := [], m := .unit, r := I, rf := .i, f := fun x => zz2 x.1 x.2.1 }
def A_zz2 : Cfg := mkCfg tab [(13, S_zz1)] []
theorem run_zz2 (N : Nat) (x : (S_zz2).a.den) : runF (A_zz2) N Tryz.f4 S_zz2 x = zz2 x.1 x.2.1 := by kernel_rfl
theorem fn_zz2 : FnOk Tryz.prog 4 := ⟨_, Tryz.func4, by kernel_rfl, by kernel_rfl⟩
theorem good_zz2 : Gx.Good Tryz.prog 4 S_zz2 := good_of_run Tryz.func4 (of_decide_eq_true (by kernel_rfl)) fun x r h => ⟨A_zz2, big, mkCfg_ok tabOk, mkCfg_sigs (show SigsOk Tryz.prog [(13, S_zz1)] from ⟨⟨fn_zz1, good_zz1⟩, trivial⟩), (run_zz2 big x).trans h⟩

/-! zz3 -/
def zz3_b3 (rec : Y4 → Y4 → Int → Z1) (k : Y4 → Z1) (a0 out3 : Y4) (i4 : Int) : Z1 :=
  cond (decide (i4 < (a0.length : Int)))
  ((atI a0 i4).bind fun xq3 =>
  (atI out3 i4).bind fun _ =>
  (out3[i4.toNat]?).bind fun xq4 =>
  rec a0 (out3.set i4.toNat xq3) (IntKind.i64.wrap (i4 + (1 : Int))))
  (k out3)
def zz3_a3 (out3 : Y4) : Z1 :=
  some (out3, (()))
def zz3_s (L3 : Y4 → Y4 → Int → Z1) (a_0 : Y4) : Z1 :=
  (mkI (0 : Int) (a_0.length : Int)).bind fun xq1 => (mkI (0 : Int) (a_0.length : Int)).bind fun xq2 => cond (decide ((a_0.length : Int) ≤ (a_0.length : Int)))
  (L3 a_0 xq2 (0 : Int))
  none
def zz3_l3 (N : Nat) (k : Y4 → Z1) : Nat → Y4 → Y4 → Int → Z1
  | 0, _, _, _ => none
  | m + 1, a0, out3, i4 => zz3_b3 (zz3_l3 N k m) k a0 out3 i4
def zz3_F3 (N : Nat) (a0 out3 : Y4) (i4 : Int) : Z1 := zz3_l3 N (zz3_a3) N a0 out3 i4
def zz3 (N : Nat) (a_0 : Y4) : Z1 := zz3_s (zz3_F3 N) a_0
def S_zz3 : Sig := { a := (.pair (.sl I) .unit), md := [0], mf := [], m := .unit, r := (.sl I), rf := (.o .i), f := fun x => zz3 big x.1 }
def A_zz3 : Cfg := mkCfg tab [] [(6, [.as (.sl I) .i, .drop, .drop, .as (.sl I) (.o .i), .as I .i]), (13, [.drop, .drop, .drop, .as (.sl I) (.o .i)])]
noncomputable def zz3_R3 (N n : Nat) (K : Ex → St → Z1) (a0 out3 : Y4) (i4 : Int) : Z1 := iter ((A_zz3).shape 6) (run (A_zz3) N (codeAt Tryz.f33 [1, 1, 0, 1, 0, 0])) n ([.val (.sl I) .i a0, .u, .u, .val (.sl I) (.o .i) out3, .val I .i i4] ++ List.replicate 17 .u) K
noncomputable abbrev zz3_z : Ex → St → Z1 := finish (A_zz3) S_zz3 Tryz.f33.results.toList
noncomputable abbrev zz3_X3 (kX : St → Z1) : Y4 → Z1 := fun (out3 : Y4) => kX ([.u, .u, .u, .val (.sl I) (.o .i) out3] ++ List.replicate 18 .u)
noncomputable abbrev zz3_E3 (kX : St → Z1) (kO : Nat → St → Z1) : Ex → St → Z1 := exK zz3_z 0 ((A_zz3).shape 13) kX kO
theorem zz3_step3 (N m : Nat) (kX : St → Z1) (kO : Nat → St → Z1) (a0 out3 : Y4) (i4 : Int) : zz3_R3 N (m + 1) (zz3_E3 kX kO) a0 out3 i4 = zz3_b3 (zz3_R3 N m (zz3_E3 kX kO)) (zz3_X3 kX) a0 out3 i4 := by kernel_rfl
theorem zz3_iter3 (N : Nat) (kX : St → Z1) (kO : Nat → St → Z1) : ∀ (n : Nat) (a0 out3 : Y4) (i4 : Int), zz3_R3 N n (zz3_E3 kX kO) a0 out3 i4 = zz3_l3 N (zz3_X3 kX) n a0 out3 i4
  | 0, _, _, _ => rfl
  | m + 1, a0, out3, i4 => by
    have hrec : zz3_R3 N m (zz3_E3 kX kO) = (zz3_l3 N (zz3_X3 kX) m) := (funext fun a0 => (funext fun out3 => (funext fun i4 => zz3_iter3 N kX kO m a0 out3 i4)))
    refine (zz3_step3 N m kX kO a0 out3 i4).trans ?_
    rw [hrec]
    rfl
noncomputable abbrev zz3_K3 (N : Nat) : Ex → St → Z1 := (blockK 0 (seqK ((A_zz3).shape 13) (run (A_zz3) N (codeAt Tryz.f33 [1, 1, 1])) zz3_z))
noncomputable abbrev zz3_k3 (N : Nat) : St → Z1 := fun st' => run (A_zz3) N (codeAt Tryz.f33 [1, 1, 1]) st' zz3_z
theorem zz3_after3 (N : Nat) (out3 : Y4) : zz3_X3 (zz3_k3 N) out3 = zz3_a3 out3 := by kernel_rfl
theorem zz3_in3 (N : Nat) (a0 out3 : Y4) (i4 : Int) : zz3_R3 N N (zz3_K3 N) a0 out3 i4 = zz3_F3 N a0 out3 i4 :=
  have h : zz3_X3 (zz3_k3 N) = (zz3_a3) := (funext fun out3 => zz3_after3 N out3)
  ((iter_ex (fun st => by kernel_rfl) (fun st => by kernel_rfl)).trans (zz3_iter3 N (zz3_k3 N) (fun j st => (zz3_K3 N) (.exit j) st) N a0 out3 i4)).trans (congrArg (fun k => zz3_l3 N k N a0 out3 i4) h)
theorem run0_zz3 (N : Nat) (x : (S_zz3).a.den) : runF (A_zz3) N Tryz.f33 S_zz3 x = (zz3_s (zz3_R3 N N (zz3_K3 N)) x.1) := by kernel_rfl
theorem run_zz3 (N : Nat) (x : (S_zz3).a.den) : runF (A_zz3) N Tryz.f33 S_zz3 x = zz3 N x.1 := by
  refine (run0_zz3 N x).trans ?_
  rw [(funext fun a0 => (funext fun out3 => (funext fun i4 => zz3_in3 N a0 out3 i4)))]
  rfl
theorem fn_zz3 : FnOk Tryz.prog 33 := ⟨_, Tryz.func33, by kernel_rfl, by kernel_rfl⟩
theorem good_zz3 : Gx.Good Tryz.prog 33 S_zz3 := good_of_run Tryz.func33 (of_decide_eq_true (by kernel_rfl)) fun x r h => ⟨A_zz3, big, mkCfg_ok tabOk, mkCfg_sigs (show SigsOk Tryz.prog [] from trivial), (run_zz3 big x).trans h⟩

/-! zz4 -/
def zz4_b3 (rec : Y3 → Y3 → Int → Option Y2) (k : Y3 → Option Y2) (a0 out3 : Y3) (i4 : Int) : Option Y2 :=
  cond (decide (i4 < (a0.length : Int)))
  ((atI a0 i4).bind fun xq3 =>
  (zz3 big xq3).bind fun rq4 =>
  (atI out3 i4).bind fun _ =>
  (out3[i4.toNat]?).bind fun xq5 =>
  rec a0 (out3.set i4.toNat rq4.1) (IntKind.i64.wrap (i4 + (1 : Int))))
  (k out3)
def zz4_a3 (out3 : Y3) : Option Y2 :=
  some (out3, (()))
def zz4_s (L3 : Y3 → Y3 → Int → Option Y2) (a_0 : Y3) : Option Y2 :=
  (mkI ([] : Y4) (a_0.length : Int)).bind fun xq1 => (mkI ([] : Y4) (a_0.length : Int)).bind fun xq2 => cond (decide ((a_0.length : Int) ≤ (a_0.length : Int)))
  (L3 a_0 xq2 (0 : Int))
  none
def zz4_l3 (N : Nat) (k : Y3 → Option Y2) : Nat → Y3 → Y3 → Int → Option Y2
  | 0, _, _, _ => none
  | m + 1, a0, out3, i4 => zz4_b3 (zz4_l3 N k m) k a0 out3 i4
def zz4_F3 (N : Nat) (a0 out3 : Y3) (i4 : Int) : Option Y2 := zz4_l3 N (zz4_a3) N a0 out3 i4
def zz4 (N : Nat) (a_0 : Y3) : Option Y2 := zz4_s (zz4_F3 N) a_0
def S_zz4 : Sig := { a := (.pair (.sl (.sl I)) .unit), md := [0], mf := [], m := .unit, r := (.sl (.sl I)), rf := (.o (.o .i)), f := fun x => zz4 big x.1 }
def A_zz4 : Cfg := mkCfg tab [(33, S_zz3)] [(6, [.as (.sl (.sl I)) .i, .drop, .drop, .as (.sl (.sl I)) (.o (.o .i)), .as I .i]), (13, [.drop, .drop, .drop, .as (.sl (.sl I)) (.o (.o .i))])]
noncomputable def zz4_R3 (N n : Nat) (K : Ex → St → Option Y2) (a0 out3 : Y3) (i4 : Int) : Option Y2 := iter ((A_zz4).shape 6) (run (A_zz4) N (codeAt Tryz.f16 [1, 1, 0, 1, 0, 0])) n ([.val (.sl (.sl I)) .i a0, .u, .u, .val (.sl (.sl I)) (.o (.o .i)) out3, .val I .i i4] ++ List.replicate 18 .u) K
noncomputable abbrev zz4_z : Ex → St → Option Y2 := finish (A_zz4) S_zz4 Tryz.f16.results.toList
noncomputable abbrev zz4_X3 (kX : St → Option Y2) : Y3 → Option Y2 := fun (out3 : Y3) => kX ([.u, .u, .u, .val (.sl (.sl I)) (.o (.o .i)) out3] ++ List.replicate 19 .u)
noncomputable abbrev zz4_E3 (kX : St → Option Y2) (kO : Nat → St → Option Y2) : Ex → St → Option Y2 := exK zz4_z 0 ((A_zz4).shape 13) kX kO
theorem zz4_step3 (N m : Nat) (kX : St → Option Y2) (kO : Nat → St → Option Y2) (a0 out3 : Y3) (i4 : Int) : zz4_R3 N (m + 1) (zz4_E3 kX kO) a0 out3 i4 = zz4_b3 (zz4_R3 N m (zz4_E3 kX kO)) (zz4_X3 kX) a0 out3 i4 := by kernel_rfl
theorem zz4_iter3 (N : Nat) (kX : St → Option Y2) (kO : Nat → St → Option Y2) : ∀ (n : Nat) (a0 out3 : Y3) (i4 : Int), zz4_R3 N n (zz4_E3 kX kO) a0 out3 i4 = zz4_l3 N (zz4_X3 kX) n a0 out3 i4
  | 0, _, _, _ => rfl
  | m + 1, a0, out3, i4 => by
    have hrec : zz4_R3 N m (zz4_E3 kX kO) = (zz4_l3 N (zz4_X3 kX) m) := (funext fun a0 => (funext fun out3 => (funext fun i4 => zz4_iter3 N kX kO m a0 out3 i4)))
    refine (zz4_step3 N m kX kO a0 out3 i4).trans ?_
    rw [hrec]
    rfl
noncomputable abbrev zz4_K3 (N : Nat) : Ex → St → Option Y2 := (blockK 0 (seqK ((A_zz4).shape 13) (run (A_zz4) N (codeAt Tryz.f16 [1, 1, 1])) zz4_z))
noncomputable abbrev zz4_k3 (N : Nat) : St → Option Y2 := fun st' => run (A_zz4) N (codeAt Tryz.f16 [1, 1, 1]) st' zz4_z
theorem zz4_after3 (N : Nat) (out3 : Y3) : zz4_X3 (zz4_k3 N) out3 = zz4_a3 out3 := by kernel_rfl
theorem zz4_in3 (N : Nat) (a0 out3 : Y3) (i4 : Int) : zz4_R3 N N (zz4_K3 N) a0 out3 i4 = zz4_F3 N a0 out3 i4 :=
  have h : zz4_X3 (zz4_k3 N) = (zz4_a3) := (funext fun out3 => zz4_after3 N out3)
  ((iter_ex (fun st => by kernel_rfl) (fun st => by kernel_rfl)).trans (zz4_iter3 N (zz4_k3 N) (fun j st => (zz4_K3 N) (.exit j) st) N a0 out3 i4)).trans (congrArg (fun k => zz4_l3 N k N a0 out3 i4) h)
theorem run0_zz4 (N : Nat) (x : (S_zz4).a.den) : runF (A_zz4) N Tryz.f16 S_zz4 x = (zz4_s (zz4_R3 N N (zz4_K3 N)) x.1) := by kernel_rfl
theorem run_zz4 (N : Nat) (x : (S_zz4).a.den) : runF (A_zz4) N Tryz.f16 S_zz4 x = zz4 N x.1 := by
  refine (run0_zz4 N x).trans ?_
  rw [(funext fun a0 => (funext fun out3 => (funext fun i4 => zz4_in3 N a0 out3 i4)))]
  rfl
theorem fn_zz4 : FnOk Tryz.prog 16 := ⟨_, Tryz.func16, by kernel_rfl, by kernel_rfl⟩
theorem good_zz4 : Gx.Good Tryz.prog 16 S_zz4 := good_of_run Tryz.func16 (of_decide_eq_true (by kernel_rfl)) fun x r h => ⟨A_zz4, big, mkCfg_ok tabOk, mkCfg_sigs (show SigsOk Tryz.prog [(33, S_zz3)] from ⟨⟨fn_zz3, good_zz3⟩, trivial⟩), (run_zz4 big x).trans h⟩

/-! zz5 -/
def zz5_s (a_0 : Y2) : Z8 :=
  (zz4 big a_0.1).bind fun rq1 =>
  some ((rq1.1, (([] : Y3), ()).2), (()))
def zz5 (a_0 : Y2) : Z8 := zz5_s a_0
def S_zz5 : Sig := { a := (.pair (.pair (.sl (.sl I)) .unit) .unit), md := [0], mf := [], m := .unit, r := (.pair (.sl (.sl I)) .unit), rf := (.p (.o (.o .i)) .i), f := fun x => zz5 x.1 }
def A_zz5 : Cfg := mkCfg tab [(16, S_zz4)] []
theorem run_zz5 (N : Nat) (x : (S_zz5).a.den) : runF (A_zz5) N Tryz.f6 S_zz5 x = zz5 x.1 := by kernel_rfl
theorem fn_zz5 : FnOk Tryz.prog 6 := ⟨_, Tryz.func6, by kernel_rfl, by kernel_rfl⟩
theorem good_zz5 : Gx.Good Tryz.prog 6 S_zz5 := good_of_run Tryz.func6 (of_decide_eq_true (by kernel_rfl)) fun x r h => ⟨A_zz5, big, mkCfg_ok tabOk, mkCfg_sigs (show SigsOk Tryz.prog [(16, S_zz4)] from ⟨⟨fn_zz4, good_zz4⟩, trivial⟩), (run_zz5 big x).trans h⟩

/-! zz6 -/
def zz6_s (x_0 a_1 b_2 : Int) : Z0 :=
  cond (decide (a_1 ≤ x_0))
  (some (decide (x_0 ≤ b_2), (())))
  (some (false, (())))
def zz6 (x_0 a_1 b_2 : Int) : Z0 := zz6_s x_0 a_1 b_2
def S_zz6 : Sig := { a := (.pair I (.pair I (.pair I .unit))), md := [0, 0, 0], mf := [], m := .unit, r := .bool, rf := .i, f := fun x => zz6 x.1 x.2.1 x.2.2.1 }
def A_zz6 : Cfg := mkCfg tab [] []
theorem run_zz6 (N : Nat) (x : (S_zz6).a.den) : runF (A_zz6) N Tryz.f94 S_zz6 x = zz6 x.1 x.2.1 x.2.2.1 := by kernel_rfl
theorem fn_zz6 : FnOk Tryz.prog 94 := ⟨_, Tryz.func94, by kernel_rfl, by kernel_rfl⟩
theorem good_zz6 : Gx.Good Tryz.prog 94 S_zz6 := good_of_run Tryz.func94 (of_decide_eq_true (by kernel_rfl)) fun x r h => ⟨A_zz6, big, mkCfg_ok tabOk, mkCfg_sigs (show SigsOk Tryz.prog [] from trivial), (run_zz6 big x).trans h⟩

/-! zz7 -/
def zz7_b2 (rec : Y4 → Int → Int → Int → Z0) (k : Z0) (l0 : Y4) (lo1 hi2 i7 : Int) : Z0 :=
  cond (decide (i7 < (l0.length : Int)))
  ((atI l0 i7).bind fun xq1 =>
  (zz6 xq1 lo1 hi2).bind fun rq2 =>
  cond (!rq2.1)
  (some (false, (())))
  (cond (decide ((0 : Int) < i7))
  ((atI l0 (IntKind.i64.wrap (i7 - (1 : Int)))).bind fun xq3 =>
  (atI l0 i7).bind fun xq4 =>
  cond (decide (xq4 ≤ xq3))
  (some (false, (())))
  (rec l0 lo1 hi2 (IntKind.i64.wrap (i7 + (1 : Int)))))
  (rec l0 lo1 hi2 (IntKind.i64.wrap (i7 + (1 : Int))))))
  (k)
def zz7_a2 : Z0 :=
  some (true, (()))
def zz7_s (L2 : Y4 → Int → Int → Int → Z0) (l_0 : Y4) (lo_1 hi_2 : Int) : Z0 :=
  L2 l_0 lo_1 hi_2 (0 : Int)
def zz7_l2 (N : Nat) (k : Z0) : Nat → Y4 → Int → Int → Int → Z0
  | 0, _, _, _, _ => none
  | m + 1, l0, lo1, hi2, i7 => zz7_b2 (zz7_l2 N k m) k l0 lo1 hi2 i7
def zz7_F2 (N : Nat) (l0 : Y4) (lo1 hi2 i7 : Int) : Z0 := zz7_l2 N (zz7_a2) N l0 lo1 hi2 i7
def zz7 (N : Nat) (l_0 : Y4) (lo_1 hi_2 : Int) : Z0 := zz7_s (zz7_F2 N) l_0 lo_1 hi_2
def S_zz7 : Sig := { a := (.pair (.sl I) (.pair I (.pair I .unit))), md := [0, 0, 0], mf := [], m := .unit, r := .bool, rf := .i, f := fun x => zz7 big x.1 x.2.1 x.2.2.1 }
def A_zz7 : Cfg := mkCfg tab [(94, S_zz6)] [(4, [.as (.sl I) .i, .as I .i, .as I .i, .drop, .drop, .drop, .drop, .as I .i]), (13, [])]
noncomputable def zz7_R2 (N n : Nat) (K : Ex → St → Z0) (l0 : Y4) (lo1 hi2 i7 : Int) : Z0 := iter ((A_zz7).shape 4) (run (A_zz7) N (codeAt Tryz.f68 [1, 0, 1, 0, 0])) n ([.val (.sl I) .i l0, .val I .i lo1, .val I .i hi2, .u, .u, .u, .u, .val I .i i7] ++ List.replicate 30 .u) K
noncomputable abbrev zz7_z : Ex → St → Z0 := finish (A_zz7) S_zz7 Tryz.f68.results.toList
noncomputable abbrev zz7_X2 (kX : St → Z0) : Z0 := kX ([] ++ List.replicate 38 .u)
noncomputable abbrev zz7_E2 (kX : St → Z0) (kO : Nat → St → Z0) : Ex → St → Z0 := exK zz7_z 0 ((A_zz7).shape 13) kX kO
theorem zz7_step2 (N m : Nat) (kX : St → Z0) (kO : Nat → St → Z0) (l0 : Y4) (lo1 hi2 i7 : Int) : zz7_R2 N (m + 1) (zz7_E2 kX kO) l0 lo1 hi2 i7 = zz7_b2 (zz7_R2 N m (zz7_E2 kX kO)) (zz7_X2 kX) l0 lo1 hi2 i7 := by kernel_rfl
theorem zz7_iter2 (N : Nat) (kX : St → Z0) (kO : Nat → St → Z0) : ∀ (n : Nat) (l0 : Y4) (lo1 hi2 i7 : Int), zz7_R2 N n (zz7_E2 kX kO) l0 lo1 hi2 i7 = zz7_l2 N (zz7_X2 kX) n l0 lo1 hi2 i7
  | 0, _, _, _, _ => rfl
  | m + 1, l0, lo1, hi2, i7 => by
    have hrec : zz7_R2 N m (zz7_E2 kX kO) = (zz7_l2 N (zz7_X2 kX) m) := (funext fun l0 => (funext fun lo1 => (funext fun hi2 => (funext fun i7 => zz7_iter2 N kX kO m l0 lo1 hi2 i7))))
    refine (zz7_step2 N m kX kO l0 lo1 hi2 i7).trans ?_
    rw [hrec]
    rfl
noncomputable abbrev zz7_K2 (N : Nat) : Ex → St → Z0 := (blockK 0 (seqK ((A_zz7).shape 13) (run (A_zz7) N (codeAt Tryz.f68 [1, 1])) zz7_z))
noncomputable abbrev zz7_k2 (N : Nat) : St → Z0 := fun st' => run (A_zz7) N (codeAt Tryz.f68 [1, 1]) st' zz7_z
theorem zz7_after2 (N : Nat) : zz7_X2 (zz7_k2 N) = zz7_a2 := by kernel_rfl
theorem zz7_in2 (N : Nat) (l0 : Y4) (lo1 hi2 i7 : Int) : zz7_R2 N N (zz7_K2 N) l0 lo1 hi2 i7 = zz7_F2 N l0 lo1 hi2 i7 :=
  have h : zz7_X2 (zz7_k2 N) = (zz7_a2) := zz7_after2 N
  ((iter_ex (fun st => by kernel_rfl) (fun st => by kernel_rfl)).trans (zz7_iter2 N (zz7_k2 N) (fun j st => (zz7_K2 N) (.exit j) st) N l0 lo1 hi2 i7)).trans (congrArg (fun k => zz7_l2 N k N l0 lo1 hi2 i7) h)
theorem run0_zz7 (N : Nat) (x : (S_zz7).a.den) : runF (A_zz7) N Tryz.f68 S_zz7 x = (zz7_s (zz7_R2 N N (zz7_K2 N)) x.1 x.2.1 x.2.2.1) := by kernel_rfl
theorem run_zz7 (N : Nat) (x : (S_zz7).a.den) : runF (A_zz7) N Tryz.f68 S_zz7 x = zz7 N x.1 x.2.1 x.2.2.1 := by
  refine (run0_zz7 N x).trans ?_
  rw [(funext fun l0 => (funext fun lo1 => (funext fun hi2 => (funext fun i7 => zz7_in2 N l0 lo1 hi2 i7))))]
  rfl
theorem fn_zz7 : FnOk Tryz.prog 68 := ⟨_, Tryz.func68, by kernel_rfl, by kernel_rfl⟩
theorem good_zz7 : Gx.Good Tryz.prog 68 S_zz7 := good_of_run Tryz.func68 (of_decide_eq_true (by kernel_rfl)) fun x r h => ⟨A_zz7, big, mkCfg_ok tabOk, mkCfg_sigs (show SigsOk Tryz.prog [(94, S_zz6)] from ⟨⟨fn_zz6, good_zz6⟩, trivial⟩), (run_zz7 big x).trans h⟩

/-! zz8 -/
def zz8_b2 (rec : Y4 → Int → Int → Z0) (k : Z0) (l0 : Y4) (n1 i5 : Int) : Z0 :=
  cond (decide (i5 < (l0.length : Int)))
  ((atI l0 i5).bind fun xq1 =>
  cond (decide (xq1 = n1))
  (some (true, (())))
  (rec l0 n1 (IntKind.i64.wrap (i5 + (1 : Int)))))
  (k)
def zz8_a2 : Z0 :=
  some (false, (()))
def zz8_s (L2 : Y4 → Int → Int → Z0) (l_0 : Y4) (n_1 : Int) : Z0 :=
  L2 l_0 n_1 (0 : Int)
def zz8_l2 (N : Nat) (k : Z0) : Nat → Y4 → Int → Int → Z0
  | 0, _, _, _ => none
  | m + 1, l0, n1, i5 => zz8_b2 (zz8_l2 N k m) k l0 n1 i5
def zz8_F2 (N : Nat) (l0 : Y4) (n1 i5 : Int) : Z0 := zz8_l2 N (zz8_a2) N l0 n1 i5
def zz8 (N : Nat) (l_0 : Y4) (n_1 : Int) : Z0 := zz8_s (zz8_F2 N) l_0 n_1
def S_zz8 : Sig := { a := (.pair (.sl I) (.pair I .unit)), md := [0, 0], mf := [], m := .unit, r := .bool, rf := .i, f := fun x => zz8 big x.1 x.2.1 }
def A_zz8 : Cfg := mkCfg tab [] [(4, [.as (.sl I) .i, .as I .i, .drop, .drop, .drop, .as I .i]), (13, [])]
noncomputable def zz8_R2 (N n : Nat) (K : Ex → St → Z0) (l0 : Y4) (n1 i5 : Int) : Z0 := iter ((A_zz8).shape 4) (run (A_zz8) N (codeAt Tryz.f53 [1, 0, 1, 0, 0])) n ([.val (.sl I) .i l0, .val I .i n1, .u, .u, .u, .val I .i i5] ++ List.replicate 12 .u) K
noncomputable abbrev zz8_z : Ex → St → Z0 := finish (A_zz8) S_zz8 Tryz.f53.results.toList
noncomputable abbrev zz8_X2 (kX : St → Z0) : Z0 := kX ([] ++ List.replicate 18 .u)
noncomputable abbrev zz8_E2 (kX : St → Z0) (kO : Nat → St → Z0) : Ex → St → Z0 := exK zz8_z 0 ((A_zz8).shape 13) kX kO
theorem zz8_step2 (N m : Nat) (kX : St → Z0) (kO : Nat → St → Z0) (l0 : Y4) (n1 i5 : Int) : zz8_R2 N (m + 1) (zz8_E2 kX kO) l0 n1 i5 = zz8_b2 (zz8_R2 N m (zz8_E2 kX kO)) (zz8_X2 kX) l0 n1 i5 := by kernel_rfl
theorem zz8_iter2 (N : Nat) (kX : St → Z0) (kO : Nat → St → Z0) : ∀ (n : Nat) (l0 : Y4) (n1 i5 : Int), zz8_R2 N n (zz8_E2 kX kO) l0 n1 i5 = zz8_l2 N (zz8_X2 kX) n l0 n1 i5
  | 0, _, _, _ => rfl
  | m + 1, l0, n1, i5 => by
    have hrec : zz8_R2 N m (zz8_E2 kX kO) = (zz8_l2 N (zz8_X2 kX) m) := (funext fun l0 => (funext fun n1 => (funext fun i5 => zz8_iter2 N kX kO m l0 n1 i5)))
    refine (zz8_step2 N m kX kO l0 n1 i5).trans ?_
    rw [hrec]
    rfl
noncomputable abbrev zz8_K2 (N : Nat) : Ex → St → Z0 := (blockK 0 (seqK ((A_zz8).shape 13) (run (A_zz8) N (codeAt Tryz.f53 [1, 1])) zz8_z))
noncomputable abbrev zz8_k2 (N : Nat) : St → Z0 := fun st' => run (A_zz8) N (codeAt Tryz.f53 [1, 1]) st' zz8_z
theorem zz8_after2 (N : Nat) : zz8_X2 (zz8_k2 N) = zz8_a2 := by kernel_rfl
theorem zz8_in2 (N : Nat) (l0 : Y4) (n1 i5 : Int) : zz8_R2 N N (zz8_K2 N) l0 n1 i5 = zz8_F2 N l0 n1 i5 :=
  have h : zz8_X2 (zz8_k2 N) = (zz8_a2) := zz8_after2 N
  ((iter_ex (fun st => by kernel_rfl) (fun st => by kernel_rfl)).trans (zz8_iter2 N (zz8_k2 N) (fun j st => (zz8_K2 N) (.exit j) st) N l0 n1 i5)).trans (congrArg (fun k => zz8_l2 N k N l0 n1 i5) h)
theorem run0_zz8 (N : Nat) (x : (S_zz8).a.den) : runF (A_zz8) N Tryz.f53 S_zz8 x = (zz8_s (zz8_R2 N N (zz8_K2 N)) x.1 x.2.1) := by kernel_rfl
theorem run_zz8 (N : Nat) (x : (S_zz8).a.den) : runF (A_zz8) N Tryz.f53 S_zz8 x = zz8 N x.1 x.2.1 := by
  refine (run0_zz8 N x).trans ?_
  rw [(funext fun l0 => (funext fun n1 => (funext fun i5 => zz8_in2 N l0 n1 i5)))]
  rfl
theorem fn_zz8 : FnOk Tryz.prog 53 := ⟨_, Tryz.func53, by kernel_rfl, by kernel_rfl⟩
theorem good_zz8 : Gx.Good Tryz.prog 53 S_zz8 := good_of_run Tryz.func53 (of_decide_eq_true (by kernel_rfl)) fun x r h => ⟨A_zz8, big, mkCfg_ok tabOk, mkCfg_sigs (show SigsOk Tryz.prog [] from trivial), (run_zz8 big x).trans h⟩

/-! zz9 -/
def zz9_b2 (rec : Y4 → Y4 → Int → Z0) (k : Z0) (x0 y1 : Y4) (i5 : Int) : Z0 :=
  cond (decide (i5 < (x0.length : Int)))
  ((atI x0 i5).bind fun xq1 =>
  (zz8 big y1 xq1).bind fun rq2 =>
  cond (!rq2.1)
  (some (false, (())))
  (rec x0 y1 (IntKind.i64.wrap (i5 + (1 : Int)))))
  (k)
def zz9_a2 : Z0 :=
  some (true, (()))
def zz9_s (L2 : Y4 → Y4 → Int → Z0) (x_0 y_1 : Y4) : Z0 :=
  L2 x_0 y_1 (0 : Int)
def zz9_l2 (N : Nat) (k : Z0) : Nat → Y4 → Y4 → Int → Z0
  | 0, _, _, _ => none
  | m + 1, x0, y1, i5 => zz9_b2 (zz9_l2 N k m) k x0 y1 i5
def zz9_F2 (N : Nat) (x0 y1 : Y4) (i5 : Int) : Z0 := zz9_l2 N (zz9_a2) N x0 y1 i5
def zz9 (N : Nat) (x_0 y_1 : Y4) : Z0 := zz9_s (zz9_F2 N) x_0 y_1
def S_zz9 : Sig := { a := (.pair (.sl I) (.pair (.sl I) .unit)), md := [0, 0], mf := [], m := .unit, r := .bool, rf := .i, f := fun x => zz9 big x.1 x.2.1 }
def A_zz9 : Cfg := mkCfg tab [(53, S_zz8)] [(4, [.as (.sl I) .i, .as (.sl I) .i, .drop, .drop, .drop, .as I .i]), (13, [])]
noncomputable def zz9_R2 (N n : Nat) (K : Ex → St → Z0) (x0 y1 : Y4) (i5 : Int) : Z0 := iter ((A_zz9).shape 4) (run (A_zz9) N (codeAt Tryz.f31 [1, 0, 1, 0, 0])) n ([.val (.sl I) .i x0, .val (.sl I) .i y1, .u, .u, .u, .val I .i i5] ++ List.replicate 13 .u) K
noncomputable abbrev zz9_z : Ex → St → Z0 := finish (A_zz9) S_zz9 Tryz.f31.results.toList
noncomputable abbrev zz9_X2 (kX : St → Z0) : Z0 := kX ([] ++ List.replicate 19 .u)
noncomputable abbrev zz9_E2 (kX : St → Z0) (kO : Nat → St → Z0) : Ex → St → Z0 := exK zz9_z 0 ((A_zz9).shape 13) kX kO
theorem zz9_step2 (N m : Nat) (kX : St → Z0) (kO : Nat → St → Z0) (x0 y1 : Y4) (i5 : Int) : zz9_R2 N (m + 1) (zz9_E2 kX kO) x0 y1 i5 = zz9_b2 (zz9_R2 N m (zz9_E2 kX kO)) (zz9_X2 kX) x0 y1 i5 := by kernel_rfl
theorem zz9_iter2 (N : Nat) (kX : St → Z0) (kO : Nat → St → Z0) : ∀ (n : Nat) (x0 y1 : Y4) (i5 : Int), zz9_R2 N n (zz9_E2 kX kO) x0 y1 i5 = zz9_l2 N (zz9_X2 kX) n x0 y1 i5
  | 0, _, _, _ => rfl
  | m + 1, x0, y1, i5 => by
    have hrec : zz9_R2 N m (zz9_E2 kX kO) = (zz9_l2 N (zz9_X2 kX) m) := (funext fun x0 => (funext fun y1 => (funext fun i5 => zz9_iter2 N kX kO m x0 y1 i5)))
    refine (zz9_step2 N m kX kO x0 y1 i5).trans ?_
    rw [hrec]
    rfl
noncomputable abbrev zz9_K2 (N : Nat) : Ex → St → Z0 := (blockK 0 (seqK ((A_zz9).shape 13) (run (A_zz9) N (codeAt Tryz.f31 [1, 1])) zz9_z))
noncomputable abbrev zz9_k2 (N : Nat) : St → Z0 := fun st' => run (A_zz9) N (codeAt Tryz.f31 [1, 1]) st' zz9_z
theorem zz9_after2 (N : Nat) : zz9_X2 (zz9_k2 N) = zz9_a2 := by kernel_rfl
theorem zz9_in2 (N : Nat) (x0 y1 : Y4) (i5 : Int) : zz9_R2 N N (zz9_K2 N) x0 y1 i5 = zz9_F2 N x0 y1 i5 :=
  have h : zz9_X2 (zz9_k2 N) = (zz9_a2) := zz9_after2 N
  ((iter_ex (fun st => by kernel_rfl) (fun st => by kernel_rfl)).trans (zz9_iter2 N (zz9_k2 N) (fun j st => (zz9_K2 N) (.exit j) st) N x0 y1 i5)).trans (congrArg (fun k => zz9_l2 N k N x0 y1 i5) h)
theorem run0_zz9 (N : Nat) (x : (S_zz9).a.den) : runF (A_zz9) N Tryz.f31 S_zz9 x = (zz9_s (zz9_R2 N N (zz9_K2 N)) x.1 x.2.1) := by kernel_rfl
theorem run_zz9 (N : Nat) (x : (S_zz9).a.den) : runF (A_zz9) N Tryz.f31 S_zz9 x = zz9 N x.1 x.2.1 := by
  refine (run0_zz9 N x).trans ?_
  rw [(funext fun x0 => (funext fun y1 => (funext fun i5 => zz9_in2 N x0 y1 i5)))]
  rfl
theorem fn_zz9 : FnOk Tryz.prog 31 := ⟨_, Tryz.func31, by kernel_rfl, by kernel_rfl⟩
theorem good_zz9 : Gx.Good Tryz.prog 31 S_zz9 := good_of_run Tryz.func31 (of_decide_eq_true (by kernel_rfl)) fun x r h => ⟨A_zz9, big, mkCfg_ok tabOk, mkCfg_sigs (show SigsOk Tryz.prog [(53, S_zz8)] from ⟨⟨fn_zz8, good_zz8⟩, trivial⟩), (run_zz9 big x).trans h⟩

/-! zz10 -/
def zz10_b13 (rec : Y2 → Int → Int → Int → Z0) (k : Y2 → Int → Int → Z0) (p1 : Y2) (n3 x5 i6 : Int) : Z0 :=
  (atI p1.1 x5).bind fun xq5 =>
  cond (decide (i6 < (xq5.length : Int)))
  ((atI p1.1 x5).bind fun xq6 =>
  (atI xq6 i6).bind fun xq7 =>
  cond (decide (xq7 ≠ x5))
  ((atI p1.1 xq7).bind fun xq8 =>
  (zz8 big xq8 x5).bind fun rq9 =>
  cond rq9.1
  (some (false, (())))
  ((atI p1.1 xq7).bind fun xq10 =>
  (atI p1.1 x5).bind fun xq11 =>
  (zz9 big xq10 xq11).bind fun rq12 =>
  cond (!rq12.1)
  (some (false, (())))
  (rec p1 n3 x5 (IntKind.i64.wrap (i6 + (1 : Int))))))
  ((atI p1.1 xq7).bind fun xq13 =>
  (atI p1.1 x5).bind fun xq14 =>
  (zz9 big xq13 xq14).bind fun rq15 =>
  cond (!rq15.1)
  (some (false, (())))
  (rec p1 n3 x5 (IntKind.i64.wrap (i6 + (1 : Int))))))
  (k p1 n3 x5)
def zz10_a13 (rec : Y2 → Int → Int → Z0) (p1 : Y2) (n3 x5 : Int) : Z0 :=
  rec p1 n3 (IntKind.i64.wrap (x5 + (1 : Int)))
def zz10_b10 (L13 : Y2 → Int → Int → Int → Z0) (k : Z0) (p1 : Y2) (n3 x5 : Int) : Z0 :=
  cond (decide (x5 < n3))
  (L13 p1 n3 x5 (0 : Int))
  (k)
def zz10_a10 : Z0 :=
  some (true, (()))
def zz10_b5 (rec : Y2 → Int → Int → Z0) (k : Y2 → Int → Z0) (p1 : Y2) (n3 x4 : Int) : Z0 :=
  cond (decide (x4 < n3))
  ((atI p1.1 x4).bind fun xq1 =>
  (zz7 big xq1 (0 : Int) (IntKind.i64.wrap (n3 - (1 : Int)))).bind fun rq2 =>
  cond (!rq2.1)
  (some (false, (())))
  ((atI p1.1 x4).bind fun xq3 =>
  (zz8 big xq3 x4).bind fun rq4 =>
  cond (!rq4.1)
  (some (false, (())))
  (rec p1 n3 (IntKind.i64.wrap (x4 + (1 : Int))))))
  (k p1 n3)
def zz10_a5 (L10 : Y2 → Int → Int → Z0) (p1 : Y2) (n3 : Int) : Z0 :=
  L10 p1 n3 (0 : Int)
def zz10_s (L5 : Y2 → Int → Int → Z0) (p_0 : Y2) : Z0 :=
  cond (decide ((10 : Int) < (p_0.1.length : Int)))
  (some (false, (())))
  (L5 p_0 (p_0.1.length : Int) (0 : Int))
def zz10_l13 (N : Nat) (k : Y2 → Int → Int → Z0) : Nat → Y2 → Int → Int → Int → Z0
  | 0, _, _, _, _ => none
  | m + 1, p1, n3, x5, i6 => zz10_b13 (zz10_l13 N k m) k p1 n3 x5 i6
def zz10_F13 (N : Nat) (rec : Y2 → Int → Int → Z0) (k : Z0) (p1 : Y2) (n3 x5 i6 : Int) : Z0 := zz10_l13 N (zz10_a13 rec) N p1 n3 x5 i6
def zz10_l5 (N : Nat) (k : Y2 → Int → Z0) : Nat → Y2 → Int → Int → Z0
  | 0, _, _, _ => none
  | m + 1, p1, n3, x4 => zz10_b5 (zz10_l5 N k m) k p1 n3 x4
def zz10_l10 (N : Nat) (k : Z0) : Nat → Y2 → Int → Int → Z0
  | 0, _, _, _ => none
  | m + 1, p1, n3, x5 => zz10_b10 (zz10_F13 N (zz10_l10 N k m) k) k p1 n3 x5
def zz10_F10 (N : Nat) (p1 : Y2) (n3 x5 : Int) : Z0 := zz10_l10 N (zz10_a10) N p1 n3 x5
def zz10_F5 (N : Nat) (p1 : Y2) (n3 x4 : Int) : Z0 := zz10_l5 N (zz10_a5 (zz10_F10 N)) N p1 n3 x4
def zz10 (N : Nat) (p_0 : Y2) : Z0 := zz10_s (zz10_F5 N) p_0
def S_zz10 : Sig := { a := (.pair (.pair (.sl (.sl I)) .unit) .unit), md := [0], mf := [], m := .unit, r := .bool, rf := .i, f := fun x => zz10 big x.1 }
def A_zz10 : Cfg := mkCfg tab [(68, S_zz7), (53, S_zz8), (31, S_zz9)] [(10, [.drop, .as (.ptr (.pair (.sl (.sl I)) .unit)) (.o .i), .drop, .as I .i, .as I .i]), (19, [.drop, .as (.ptr (.pair (.sl (.sl I)) .unit)) (.o .i), .drop, .as I .i]), (20, [.drop, .as (.ptr (.pair (.sl (.sl I)) .unit)) (.o .i), .drop, .as I .i, .drop, .as I .i]), (26, [.drop, .as (.ptr (.pair (.sl (.sl I)) .unit)) (.o .i), .drop, .as I .i, .drop, .as I .i, .as I .i]), (37, []), (23, [.drop, .as (.ptr (.pair (.sl (.sl I)) .unit)) (.o .i), .drop, .as I .i, .drop, .as I .i])]
noncomputable def zz10_R5 (N n : Nat) (K : Ex → St → Z0) (p1 : Y2) (n3 x4 : Int) : Z0 := iter ((A_zz10).shape 10) (run (A_zz10) N (codeAt Tryz.f45 [1, 1, 1, 0, 1, 0, 0])) n ([.u, .val (.ptr (.pair (.sl (.sl I)) .unit)) (.o .i) p1, .u, .val I .i n3, .val I .i x4] ++ List.replicate 81 .u) K
noncomputable def zz10_R10 (N n : Nat) (K : Ex → St → Z0) (p1 : Y2) (n3 x5 : Int) : Z0 := iter ((A_zz10).shape 20) (run (A_zz10) N (codeAt Tryz.f45 [1, 1, 1, 1, 0, 1, 0, 0])) n ([.u, .val (.ptr (.pair (.sl (.sl I)) .unit)) (.o .i) p1, .u, .val I .i n3, .u, .val I .i x5] ++ List.replicate 80 .u) K
noncomputable def zz10_R13 (N n : Nat) (K : Ex → St → Z0) (p1 : Y2) (n3 x5 i6 : Int) : Z0 := iter ((A_zz10).shape 26) (run (A_zz10) N (codeAt Tryz.f45 [1, 1, 1, 1, 0, 1, 0, 0, 1, 0, 0, 1, 0, 0])) n ([.u, .val (.ptr (.pair (.sl (.sl I)) .unit)) (.o .i) p1, .u, .val I .i n3, .u, .val I .i x5, .val I .i i6] ++ List.replicate 79 .u) K
noncomputable abbrev zz10_z : Ex → St → Z0 := finish (A_zz10) S_zz10 Tryz.f45.results.toList
noncomputable abbrev zz10_X5 (kX : St → Z0) : Y2 → Int → Z0 := fun (p1 : Y2) (n3 : Int) => kX ([.u, .val (.ptr (.pair (.sl (.sl I)) .unit)) (.o .i) p1, .u, .val I .i n3] ++ List.replicate 82 .u)
noncomputable abbrev zz10_E5 (kX : St → Z0) (kO : Nat → St → Z0) : Ex → St → Z0 := exK zz10_z 0 ((A_zz10).shape 19) kX kO
noncomputable abbrev zz10_X10 (kX : St → Z0) : Z0 := kX ([] ++ List.replicate 86 .u)
noncomputable abbrev zz10_E10 (kX : St → Z0) (kO : Nat → St → Z0) : Ex → St → Z0 := exK zz10_z 2 ((A_zz10).shape 37) kX kO
noncomputable abbrev zz10_X13 (kX : St → Z0) : Y2 → Int → Int → Z0 := fun (p1 : Y2) (n3 x5 : Int) => kX ([.u, .val (.ptr (.pair (.sl (.sl I)) .unit)) (.o .i) p1, .u, .val I .i n3, .u, .val I .i x5] ++ List.replicate 80 .u)
noncomputable abbrev zz10_E13 (kX : St → Z0) (kO : Nat → St → Z0) : Ex → St → Z0 := exK zz10_z 4 ((A_zz10).shape 23) kX kO
theorem zz10_step5 (N m : Nat) (kX : St → Z0) (kO : Nat → St → Z0) (p1 : Y2) (n3 x4 : Int) : zz10_R5 N (m + 1) (zz10_E5 kX kO) p1 n3 x4 = zz10_b5 (zz10_R5 N m (zz10_E5 kX kO)) (zz10_X5 kX) p1 n3 x4 := by kernel_rfl
theorem zz10_iter5 (N : Nat) (kX : St → Z0) (kO : Nat → St → Z0) : ∀ (n : Nat) (p1 : Y2) (n3 x4 : Int), zz10_R5 N n (zz10_E5 kX kO) p1 n3 x4 = zz10_l5 N (zz10_X5 kX) n p1 n3 x4
  | 0, _, _, _ => rfl
  | m + 1, p1, n3, x4 => by
    have hrec : zz10_R5 N m (zz10_E5 kX kO) = (zz10_l5 N (zz10_X5 kX) m) := (funext fun p1 => (funext fun n3 => (funext fun x4 => zz10_iter5 N kX kO m p1 n3 x4)))
    refine (zz10_step5 N m kX kO p1 n3 x4).trans ?_
    rw [hrec]
    rfl
noncomputable abbrev zz10_K5 (N : Nat) : Ex → St → Z0 := (blockK 0 (seqK ((A_zz10).shape 19) (run (A_zz10) N (codeAt Tryz.f45 [1, 1, 1, 1])) zz10_z))
theorem zz10_step13 (N m : Nat) (kX : St → Z0) (kO : Nat → St → Z0) (p1 : Y2) (n3 x5 i6 : Int) : zz10_R13 N (m + 1) (zz10_E13 kX kO) p1 n3 x5 i6 = zz10_b13 (zz10_R13 N m (zz10_E13 kX kO)) (zz10_X13 kX) p1 n3 x5 i6 := by kernel_rfl
theorem zz10_iter13 (N : Nat) (kX : St → Z0) (kO : Nat → St → Z0) : ∀ (n : Nat) (p1 : Y2) (n3 x5 i6 : Int), zz10_R13 N n (zz10_E13 kX kO) p1 n3 x5 i6 = zz10_l13 N (zz10_X13 kX) n p1 n3 x5 i6
  | 0, _, _, _, _ => rfl
  | m + 1, p1, n3, x5, i6 => by
    have hrec : zz10_R13 N m (zz10_E13 kX kO) = (zz10_l13 N (zz10_X13 kX) m) := (funext fun p1 => (funext fun n3 => (funext fun x5 => (funext fun i6 => zz10_iter13 N kX kO m p1 n3 x5 i6))))
    refine (zz10_step13 N m kX kO p1 n3 x5 i6).trans ?_
    rw [hrec]
    rfl
noncomputable abbrev zz10_K13 (N m : Nat) (kX : St → Z0) (kO : Nat → St → Z0) : Ex → St → Z0 := (blockK 4 (blockK 3 (seqK ((A_zz10).shape 23) (run (A_zz10) N (codeAt Tryz.f45 [1, 1, 1, 1, 0, 1, 0, 0, 1, 1])) (iterK ((A_zz10).shape 20) (run (A_zz10) N (codeAt Tryz.f45 [1, 1, 1, 1, 0, 1, 0, 0])) m (zz10_E10 kX kO)))))
noncomputable abbrev zz10_k13 (N m : Nat) (kX : St → Z0) (kO : Nat → St → Z0) : St → Z0 := fun st' => run (A_zz10) N (codeAt Tryz.f45 [1, 1, 1, 1, 0, 1, 0, 0, 1, 1]) st' (iterK ((A_zz10).shape 20) (run (A_zz10) N (codeAt Tryz.f45 [1, 1, 1, 1, 0, 1, 0, 0])) m (zz10_E10 kX kO))
theorem zz10_after13 (N m : Nat) (kX : St → Z0) (kO : Nat → St → Z0) (p1 : Y2) (n3 x5 : Int) : zz10_X13 (zz10_k13 N m kX kO) p1 n3 x5 = zz10_a13 (zz10_R10 N m (zz10_E10 kX kO)) p1 n3 x5 := by kernel_rfl
theorem zz10_in13 (N m : Nat) (kX : St → Z0) (kO : Nat → St → Z0) (recF : Y2 → Int → Int → Z0) (hrec : zz10_R10 N m (zz10_E10 kX kO) = recF) (p1 : Y2) (n3 x5 i6 : Int) : zz10_R13 N N (zz10_K13 N m kX kO) p1 n3 x5 i6 = zz10_F13 N recF (zz10_X10 kX) p1 n3 x5 i6 :=
  have h : zz10_X13 (zz10_k13 N m kX kO) = (zz10_a13 recF) := (funext fun p1 => (funext fun n3 => (funext fun x5 => (zz10_after13 N m kX kO p1 n3 x5).trans (by rw [hrec]))))
  ((iter_ex (fun st => by kernel_rfl) (fun st => by kernel_rfl)).trans (zz10_iter13 N (zz10_k13 N m kX kO) (fun j st => (zz10_K13 N m kX kO) (.exit j) st) N p1 n3 x5 i6)).trans (congrArg (fun k => zz10_l13 N k N p1 n3 x5 i6) h)
theorem zz10_step10 (N m : Nat) (kX : St → Z0) (kO : Nat → St → Z0) (p1 : Y2) (n3 x5 : Int) : zz10_R10 N (m + 1) (zz10_E10 kX kO) p1 n3 x5 = zz10_b10 (zz10_R13 N N (zz10_K13 N m kX kO)) (zz10_X10 kX) p1 n3 x5 := by kernel_rfl
theorem zz10_iter10 (N : Nat) (kX : St → Z0) (kO : Nat → St → Z0) : ∀ (n : Nat) (p1 : Y2) (n3 x5 : Int), zz10_R10 N n (zz10_E10 kX kO) p1 n3 x5 = zz10_l10 N (zz10_X10 kX) n p1 n3 x5
  | 0, _, _, _ => rfl
  | m + 1, p1, n3, x5 => by
    have hrec : zz10_R10 N m (zz10_E10 kX kO) = (zz10_l10 N (zz10_X10 kX) m) := (funext fun p1 => (funext fun n3 => (funext fun x5 => zz10_iter10 N kX kO m p1 n3 x5)))
    refine (zz10_step10 N m kX kO p1 n3 x5).trans ?_
    rw [(funext fun p1 => (funext fun n3 => (funext fun x5 => (funext fun i6 => zz10_in13 N m kX kO (zz10_l10 N (zz10_X10 kX) m) hrec p1 n3 x5 i6))))]
    rfl
noncomputable abbrev zz10_K10 (N : Nat) : Ex → St → Z0 := (blockK 2 (seqK ((A_zz10).shape 37) (run (A_zz10) N (codeAt Tryz.f45 [1, 1, 1, 1, 1])) zz10_z))
noncomputable abbrev zz10_k10 (N : Nat) : St → Z0 := fun st' => run (A_zz10) N (codeAt Tryz.f45 [1, 1, 1, 1, 1]) st' zz10_z
theorem zz10_after10 (N : Nat) : zz10_X10 (zz10_k10 N) = zz10_a10 := by kernel_rfl
theorem zz10_in10 (N : Nat) (p1 : Y2) (n3 x5 : Int) : zz10_R10 N N (zz10_K10 N) p1 n3 x5 = zz10_F10 N p1 n3 x5 :=
  have h : zz10_X10 (zz10_k10 N) = (zz10_a10) := zz10_after10 N
  ((iter_ex (fun st => by kernel_rfl) (fun st => by kernel_rfl)).trans (zz10_iter10 N (zz10_k10 N) (fun j st => (zz10_K10 N) (.exit j) st) N p1 n3 x5)).trans (congrArg (fun k => zz10_l10 N k N p1 n3 x5) h)
noncomputable abbrev zz10_k5 (N : Nat) : St → Z0 := fun st' => run (A_zz10) N (codeAt Tryz.f45 [1, 1, 1, 1]) st' zz10_z
theorem zz10_after5 (N : Nat) (p1 : Y2) (n3 : Int) : zz10_X5 (zz10_k5 N) p1 n3 = zz10_a5 (zz10_R10 N N (zz10_K10 N)) p1 n3 := by kernel_rfl
theorem zz10_in5 (N : Nat) (p1 : Y2) (n3 x4 : Int) : zz10_R5 N N (zz10_K5 N) p1 n3 x4 = zz10_F5 N p1 n3 x4 :=
  have h : zz10_X5 (zz10_k5 N) = (zz10_a5 (zz10_F10 N)) := (funext fun p1 => (funext fun n3 => (zz10_after5 N p1 n3).trans (by rw [(funext fun p1 => (funext fun n3 => (funext fun x5 => zz10_in10 N p1 n3 x5)))])))
  ((iter_ex (fun st => by kernel_rfl) (fun st => by kernel_rfl)).trans (zz10_iter5 N (zz10_k5 N) (fun j st => (zz10_K5 N) (.exit j) st) N p1 n3 x4)).trans (congrArg (fun k => zz10_l5 N k N p1 n3 x4) h)
theorem run0_zz10 (N : Nat) (x : (S_zz10).a.den) : runF (A_zz10) N Tryz.f45 S_zz10 x = (zz10_s (zz10_R5 N N (zz10_K5 N)) x.1) := by kernel_rfl
theorem run_zz10 (N : Nat) (x : (S_zz10).a.den) : runF (A_zz10) N Tryz.f45 S_zz10 x = zz10 N x.1 := by
  refine (run0_zz10 N x).trans ?_
  rw [(funext fun p1 => (funext fun n3 => (funext fun x4 => zz10_in5 N p1 n3 x4)))]
  rfl
theorem fn_zz10 : FnOk Tryz.prog 45 := ⟨_, Tryz.func45, by kernel_rfl, by kernel_rfl⟩
theorem good_zz10 : Gx.Good Tryz.prog 45 S_zz10 := good_of_run Tryz.func45 (of_decide_eq_true (by kernel_rfl)) fun x r h => ⟨A_zz10, big, mkCfg_ok tabOk, mkCfg_sigs (show SigsOk Tryz.prog [(68, S_zz7), (53, S_zz8), (31, S_zz9)] from ⟨⟨fn_zz7, good_zz7⟩, ⟨fn_zz8, good_zz8⟩, ⟨fn_zz9, good_zz9⟩, trivial⟩), (run_zz10 big x).trans h⟩

/-! zz11 -/
def zz11_s (p_0 : Y2) (x_1 y_2 : Int) : Z0 :=
  (atI p_0.1 y_2).bind fun xq1 =>
  (zz8 big xq1 x_1).bind fun rq2 =>
  some (rq2.1, (()))
def zz11 (p_0 : Y2) (x_1 y_2 : Int) : Z0 := zz11_s p_0 x_1 y_2
def S_zz11 : Sig := { a := (.pair (.pair (.sl (.sl I)) .unit) (.pair I (.pair I .unit))), md := [0, 0, 0], mf := [], m := .unit, r := .bool, rf := .i, f := fun x => zz11 x.1 x.2.1 x.2.2.1 }
def A_zz11 : Cfg := mkCfg tab [(53, S_zz8)] []
theorem run_zz11 (N : Nat) (x : (S_zz11).a.den) : runF (A_zz11) N Tryz.f69 S_zz11 x = zz11 x.1 x.2.1 x.2.2.1 := by kernel_rfl
theorem fn_zz11 : FnOk Tryz.prog 69 := ⟨_, Tryz.func69, by kernel_rfl, by kernel_rfl⟩
theorem good_zz11 : Gx.Good Tryz.prog 69 S_zz11 := good_of_run Tryz.func69 (of_decide_eq_true (by kernel_rfl)) fun x r h => ⟨A_zz11, big, mkCfg_ok tabOk, mkCfg_sigs (show SigsOk Tryz.prog [(53, S_zz8)] from ⟨⟨fn_zz8, good_zz8⟩, trivial⟩), (run_zz11 big x).trans h⟩

/-! zz12 -/
def zz12_b7 (rec : Y2 → Y2 → Y2 → Int → Y4 → Int → Z8) (k : Y2 → Y2 → Y2 → Int → Y4 → Z8) (p1 t2 out3 : Y2) (x4 : Int) (below5 : Y4) (y6 : Int) : Z8 :=
  cond (decide (y6 < (p1.1.length : Int)))
  ((zz11 p1 x4 y6).bind fun rq1 =>
  cond rq1.1
  ((appI below5 [y6]).bind fun xq2 =>
  rec p1 t2 out3 x4 xq2 (IntKind.i64.wrap (y6 + (1 : Int))))
  (rec p1 t2 out3 x4 below5 (IntKind.i64.wrap (y6 + (1 : Int)))))
  (k p1 t2 out3 x4 below5)
def zz12_a7 (rec : Y2 → Y2 → Y2 → Int → Z8) (p1 t2 out3 : Y2) (x4 : Int) (below5 : Y4) : Z8 :=
  (appI out3.1 [below5]).bind fun xq3 =>
  rec p1 t2 (xq3, ((), out3.2).2) (IntKind.i64.wrap (x4 + (1 : Int)))
def zz12_b3 (L7 : Y2 → Y2 → Y2 → Int → Y4 → Int → Z8) (k : Y2 → Y2 → Z8) (p1 t2 out3 : Y2) (x4 : Int) : Z8 :=
  cond (decide (x4 < (p1.1.length : Int)))
  (L7 p1 t2 out3 x4 [] (0 : Int))
  (k t2 out3)
def zz12_a3 (t2 out3 : Y2) : Z8 :=
  some (out3, (()))
def zz12_s (L3 : Y2 → Y2 → Y2 → Int → Z8) (p_0 : Y2) : Z8 :=
  L3 p_0 (([] : Y3), ()) ([], ()) (0 : Int)
def zz12_l7 (N : Nat) (k : Y2 → Y2 → Y2 → Int → Y4 → Z8) : Nat → Y2 → Y2 → Y2 → Int → Y4 → Int → Z8
  | 0, _, _, _, _, _, _ => none
  | m + 1, p1, t2, out3, x4, below5, y6 => zz12_b7 (zz12_l7 N k m) k p1 t2 out3 x4 below5 y6
def zz12_F7 (N : Nat) (rec : Y2 → Y2 → Y2 → Int → Z8) (k : Y2 → Y2 → Z8) (p1 t2 out3 : Y2) (x4 : Int) (below5 : Y4) (y6 : Int) : Z8 := zz12_l7 N (zz12_a7 rec) N p1 t2 out3 x4 below5 y6
def zz12_l3 (N : Nat) (k : Y2 → Y2 → Z8) : Nat → Y2 → Y2 → Y2 → Int → Z8
  | 0, _, _, _, _ => none
  | m + 1, p1, t2, out3, x4 => zz12_b3 (zz12_F7 N (zz12_l3 N k m) k) k p1 t2 out3 x4
def zz12_F3 (N : Nat) (p1 t2 out3 : Y2) (x4 : Int) : Z8 := zz12_l3 N (zz12_a3) N p1 t2 out3 x4
def zz12 (N : Nat) (p_0 : Y2) : Z8 := zz12_s (zz12_F3 N) p_0
def S_zz12 : Sig := { a := (.pair (.pair (.sl (.sl I)) .unit) .unit), md := [0], mf := [], m := .unit, r := (.pair (.sl (.sl I)) .unit), rf := (.p (.o (.o .i)) .i), f := fun x => zz12 big x.1 }
def A_zz12 : Cfg := mkCfg tab [(69, S_zz11)] [(6, [.drop, .as (.ptr (.pair (.sl (.sl I)) .unit)) (.o .i), .as (.ptr (.pair (.sl (.sl I)) .unit)) (.o (.p (.o (.o .i)) .i)), .as (.ptr (.pair (.sl (.sl I)) .unit)) (.o (.p (.o (.o .i)) .i)), .as I .i]), (14, [.drop, .as (.ptr (.pair (.sl (.sl I)) .unit)) (.o .i), .as (.ptr (.pair (.sl (.sl I)) .unit)) (.o (.p (.o (.o .i)) .i)), .as (.ptr (.pair (.sl (.sl I)) .unit)) (.o (.p (.o (.o .i)) .i)), .as I .i, .as (.sl I) (.o .i), .as I .i]), (25, [.drop, .drop, .as (.ptr (.pair (.sl (.sl I)) .unit)) (.o (.p (.o (.o .i)) .i)), .as (.ptr (.pair (.sl (.sl I)) .unit)) (.o (.p (.o (.o .i)) .i))]), (23, [.drop, .as (.ptr (.pair (.sl (.sl I)) .unit)) (.o .i), .as (.ptr (.pair (.sl (.sl I)) .unit)) (.o (.p (.o (.o .i)) .i)), .as (.ptr (.pair (.sl (.sl I)) .unit)) (.o (.p (.o (.o .i)) .i)), .as I .i, .as (.sl I) (.o .i)])]
noncomputable def zz12_R3 (N n : Nat) (K : Ex → St → Z8) (p1 t2 out3 : Y2) (x4 : Int) : Z8 := iter ((A_zz12).shape 6) (run (A_zz12) N (codeAt Tryz.f46 [1, 1, 0, 1, 0, 0])) n ([.u, .val (.ptr (.pair (.sl (.sl I)) .unit)) (.o .i) p1, .val (.ptr (.pair (.sl (.sl I)) .unit)) (.o (.p (.o (.o .i)) .i)) t2, .val (.ptr (.pair (.sl (.sl I)) .unit)) (.o (.p (.o (.o .i)) .i)) out3, .val I .i x4] ++ List.replicate 34 .u) K
noncomputable def zz12_R7 (N n : Nat) (K : Ex → St → Z8) (p1 t2 out3 : Y2) (x4 : Int) (below5 : Y4) (y6 : Int) : Z8 := iter ((A_zz12).shape 14) (run (A_zz12) N (codeAt Tryz.f46 [1, 1, 0, 1, 0, 0, 1, 0, 0, 1, 0, 1, 0, 0])) n ([.u, .val (.ptr (.pair (.sl (.sl I)) .unit)) (.o .i) p1, .val (.ptr (.pair (.sl (.sl I)) .unit)) (.o (.p (.o (.o .i)) .i)) t2, .val (.ptr (.pair (.sl (.sl I)) .unit)) (.o (.p (.o (.o .i)) .i)) out3, .val I .i x4, .val (.sl I) (.o .i) below5, .val I .i y6] ++ List.replicate 32 .u) K
noncomputable abbrev zz12_z : Ex → St → Z8 := finish (A_zz12) S_zz12 Tryz.f46.results.toList
noncomputable abbrev zz12_X3 (kX : St → Z8) : Y2 → Y2 → Z8 := fun (t2 out3 : Y2) => kX ([.u, .u, .val (.ptr (.pair (.sl (.sl I)) .unit)) (.o (.p (.o (.o .i)) .i)) t2, .val (.ptr (.pair (.sl (.sl I)) .unit)) (.o (.p (.o (.o .i)) .i)) out3] ++ List.replicate 35 .u)
noncomputable abbrev zz12_E3 (kX : St → Z8) (kO : Nat → St → Z8) : Ex → St → Z8 := exK zz12_z 0 ((A_zz12).shape 25) kX kO
noncomputable abbrev zz12_X7 (kX : St → Z8) : Y2 → Y2 → Y2 → Int → Y4 → Z8 := fun (p1 t2 out3 : Y2) (x4 : Int) (below5 : Y4) => kX ([.u, .val (.ptr (.pair (.sl (.sl I)) .unit)) (.o .i) p1, .val (.ptr (.pair (.sl (.sl I)) .unit)) (.o (.p (.o (.o .i)) .i)) t2, .val (.ptr (.pair (.sl (.sl I)) .unit)) (.o (.p (.o (.o .i)) .i)) out3, .val I .i x4, .val (.sl I) (.o .i) below5] ++ List.replicate 33 .u)
noncomputable abbrev zz12_E7 (kX : St → Z8) (kO : Nat → St → Z8) : Ex → St → Z8 := exK zz12_z 2 ((A_zz12).shape 23) kX kO
theorem zz12_step7 (N m : Nat) (kX : St → Z8) (kO : Nat → St → Z8) (p1 t2 out3 : Y2) (x4 : Int) (below5 : Y4) (y6 : Int) : zz12_R7 N (m + 1) (zz12_E7 kX kO) p1 t2 out3 x4 below5 y6 = zz12_b7 (zz12_R7 N m (zz12_E7 kX kO)) (zz12_X7 kX) p1 t2 out3 x4 below5 y6 := by kernel_rfl
theorem zz12_iter7 (N : Nat) (kX : St → Z8) (kO : Nat → St → Z8) : ∀ (n : Nat) (p1 t2 out3 : Y2) (x4 : Int) (below5 : Y4) (y6 : Int), zz12_R7 N n (zz12_E7 kX kO) p1 t2 out3 x4 below5 y6 = zz12_l7 N (zz12_X7 kX) n p1 t2 out3 x4 below5 y6
  | 0, _, _, _, _, _, _ => rfl
  | m + 1, p1, t2, out3, x4, below5, y6 => by
    have hrec : zz12_R7 N m (zz12_E7 kX kO) = (zz12_l7 N (zz12_X7 kX) m) := (funext fun p1 => (funext fun t2 => (funext fun out3 => (funext fun x4 => (funext fun below5 => (funext fun y6 => zz12_iter7 N kX kO m p1 t2 out3 x4 below5 y6))))))
    refine (zz12_step7 N m kX kO p1 t2 out3 x4 below5 y6).trans ?_
    rw [hrec]
    rfl
noncomputable abbrev zz12_K7 (N m : Nat) (kX : St → Z8) (kO : Nat → St → Z8) : Ex → St → Z8 := (blockK 2 (seqK ((A_zz12).shape 23) (run (A_zz12) N (codeAt Tryz.f46 [1, 1, 0, 1, 0, 0, 1, 0, 0, 1, 1])) (blockK 1 (seqK ((A_zz12).shape 9) (run (A_zz12) N (codeAt Tryz.f46 [1, 1, 0, 1, 0, 0, 1, 1])) (iterK ((A_zz12).shape 6) (run (A_zz12) N (codeAt Tryz.f46 [1, 1, 0, 1, 0, 0])) m (zz12_E3 kX kO))))))
noncomputable abbrev zz12_k7 (N m : Nat) (kX : St → Z8) (kO : Nat → St → Z8) : St → Z8 := fun st' => run (A_zz12) N (codeAt Tryz.f46 [1, 1, 0, 1, 0, 0, 1, 0, 0, 1, 1]) st' (blockK 1 (seqK ((A_zz12).shape 9) (run (A_zz12) N (codeAt Tryz.f46 [1, 1, 0, 1, 0, 0, 1, 1])) (iterK ((A_zz12).shape 6) (run (A_zz12) N (codeAt Tryz.f46 [1, 1, 0, 1, 0, 0])) m (zz12_E3 kX kO))))
theorem zz12_after7 (N m : Nat) (kX : St → Z8) (kO : Nat → St → Z8) (p1 t2 out3 : Y2) (x4 : Int) (below5 : Y4) : zz12_X7 (zz12_k7 N m kX kO) p1 t2 out3 x4 below5 = zz12_a7 (zz12_R3 N m (zz12_E3 kX kO)) p1 t2 out3 x4 below5 := by kernel_rfl
theorem zz12_in7 (N m : Nat) (kX : St → Z8) (kO : Nat → St → Z8) (recF : Y2 → Y2 → Y2 → Int → Z8) (hrec : zz12_R3 N m (zz12_E3 kX kO) = recF) (p1 t2 out3 : Y2) (x4 : Int) (below5 : Y4) (y6 : Int) : zz12_R7 N N (zz12_K7 N m kX kO) p1 t2 out3 x4 below5 y6 = zz12_F7 N recF (zz12_X3 kX) p1 t2 out3 x4 below5 y6 :=
  have h : zz12_X7 (zz12_k7 N m kX kO) = (zz12_a7 recF) := (funext fun p1 => (funext fun t2 => (funext fun out3 => (funext fun x4 => (funext fun below5 => (zz12_after7 N m kX kO p1 t2 out3 x4 below5).trans (by rw [hrec]))))))
  ((iter_ex (fun st => by kernel_rfl) (fun st => by kernel_rfl)).trans (zz12_iter7 N (zz12_k7 N m kX kO) (fun j st => (zz12_K7 N m kX kO) (.exit j) st) N p1 t2 out3 x4 below5 y6)).trans (congrArg (fun k => zz12_l7 N k N p1 t2 out3 x4 below5 y6) h)
theorem zz12_step3 (N m : Nat) (kX : St → Z8) (kO : Nat → St → Z8) (p1 t2 out3 : Y2) (x4 : Int) : zz12_R3 N (m + 1) (zz12_E3 kX kO) p1 t2 out3 x4 = zz12_b3 (zz12_R7 N N (zz12_K7 N m kX kO)) (zz12_X3 kX) p1 t2 out3 x4 := by kernel_rfl
theorem zz12_iter3 (N : Nat) (kX : St → Z8) (kO : Nat → St → Z8) : ∀ (n : Nat) (p1 t2 out3 : Y2) (x4 : Int), zz12_R3 N n (zz12_E3 kX kO) p1 t2 out3 x4 = zz12_l3 N (zz12_X3 kX) n p1 t2 out3 x4
  | 0, _, _, _, _ => rfl
  | m + 1, p1, t2, out3, x4 => by
    have hrec : zz12_R3 N m (zz12_E3 kX kO) = (zz12_l3 N (zz12_X3 kX) m) := (funext fun p1 => (funext fun t2 => (funext fun out3 => (funext fun x4 => zz12_iter3 N kX kO m p1 t2 out3 x4))))
    refine (zz12_step3 N m kX kO p1 t2 out3 x4).trans ?_
    rw [(funext fun p1 => (funext fun t2 => (funext fun out3 => (funext fun x4 => (funext fun below5 => (funext fun y6 => zz12_in7 N m kX kO (zz12_l3 N (zz12_X3 kX) m) hrec p1 t2 out3 x4 below5 y6))))))]
    rfl
noncomputable abbrev zz12_K3 (N : Nat) : Ex → St → Z8 := (blockK 0 (seqK ((A_zz12).shape 25) (run (A_zz12) N (codeAt Tryz.f46 [1, 1, 1])) zz12_z))
noncomputable abbrev zz12_k3 (N : Nat) : St → Z8 := fun st' => run (A_zz12) N (codeAt Tryz.f46 [1, 1, 1]) st' zz12_z
theorem zz12_after3 (N : Nat) (t2 out3 : Y2) : zz12_X3 (zz12_k3 N) t2 out3 = zz12_a3 t2 out3 := by kernel_rfl
theorem zz12_in3 (N : Nat) (p1 t2 out3 : Y2) (x4 : Int) : zz12_R3 N N (zz12_K3 N) p1 t2 out3 x4 = zz12_F3 N p1 t2 out3 x4 :=
  have h : zz12_X3 (zz12_k3 N) = (zz12_a3) := (funext fun t2 => (funext fun out3 => zz12_after3 N t2 out3))
  ((iter_ex (fun st => by kernel_rfl) (fun st => by kernel_rfl)).trans (zz12_iter3 N (zz12_k3 N) (fun j st => (zz12_K3 N) (.exit j) st) N p1 t2 out3 x4)).trans (congrArg (fun k => zz12_l3 N k N p1 t2 out3 x4) h)
theorem run0_zz12 (N : Nat) (x : (S_zz12).a.den) : runF (A_zz12) N Tryz.f46 S_zz12 x = (zz12_s (zz12_R3 N N (zz12_K3 N)) x.1) := by kernel_rfl
theorem run_zz12 (N : Nat) (x : (S_zz12).a.den) : runF (A_zz12) N Tryz.f46 S_zz12 x = zz12 N x.1 := by
  refine (run0_zz12 N x).trans ?_
  rw [(funext fun p1 => (funext fun t2 => (funext fun out3 => (funext fun x4 => zz12_in3 N p1 t2 out3 x4))))]
  rfl
theorem fn_zz12 : FnOk Tryz.prog 46 := ⟨_, Tryz.func46, by kernel_rfl, by kernel_rfl⟩
theorem good_zz12 : Gx.Good Tryz.prog 46 S_zz12 := good_of_run Tryz.func46 (of_decide_eq_true (by kernel_rfl)) fun x r h => ⟨A_zz12, big, mkCfg_ok tabOk, mkCfg_sigs (show SigsOk Tryz.prog [(69, S_zz11)] from ⟨⟨fn_zz11, good_zz11⟩, trivial⟩), (run_zz12 big x).trans h⟩

/-! zz13 -/
def zz13_b13 (rec : Y2 → Y4 → Int → Z2) (k : Z2) (p2 : Y2) (low5 : Y4) (i9 : Int) : Z2 :=
  cond (decide (i9 < (low5.length : Int)))
  ((atI low5 i9).bind fun _ =>
  (low5[i9.toNat]?).bind fun xq4 =>
  (atI p2.1 xq4).bind fun xq5 =>
  (zz9 big low5 xq5).bind fun rq6 =>
  cond rq6.1
  ((atI low5 i9).bind fun _ =>
  (low5[i9.toNat]?).bind fun xq7 =>
  some (xq7, (())))
  (rec p2 low5 (IntKind.i64.wrap (i9 + (1 : Int)))))
  (k)
def zz13_a13 : Z2 :=
  some ((-1 : Int), (()))
def zz13_b7 (rec : Y4 → Y2 → Y4 → Int → Bool → Int → Z2) (k : Y4 → Y2 → Y4 → Int → Bool → Z2) (some1 : Y4) (p2 : Y2) (low5 : Y4) (z6 : Int) (all7 : Bool) (i8 : Int) : Z2 :=
  cond (decide (i8 < (some1.length : Int)))
  (cond all7
  ((atI some1 i8).bind fun xq1 =>
  (zz11 p2 z6 xq1).bind fun rq2 =>
  rec some1 p2 low5 z6 rq2.1 (IntKind.i64.wrap (i8 + (1 : Int))))
  (rec some1 p2 low5 z6 false (IntKind.i64.wrap (i8 + (1 : Int)))))
  (k some1 p2 low5 z6 all7)
def zz13_a7 (rec : Y4 → Y2 → Y4 → Int → Z2) (some1 : Y4) (p2 : Y2) (low5 : Y4) (z6 : Int) (all7 : Bool) : Z2 :=
  cond all7
  ((appI low5 [z6]).bind fun xq3 =>
  rec some1 p2 xq3 (IntKind.i64.wrap (z6 + (1 : Int))))
  (rec some1 p2 low5 (IntKind.i64.wrap (z6 + (1 : Int))))
def zz13_b3 (L7 : Y4 → Y2 → Y4 → Int → Bool → Int → Z2) (k : Y2 → Y4 → Z2) (some1 : Y4) (p2 : Y2) (low5 : Y4) (z6 : Int) : Z2 :=
  cond (decide (z6 < (p2.1.length : Int)))
  (L7 some1 p2 low5 z6 true (0 : Int))
  (k p2 low5)
def zz13_a3 (L13 : Y2 → Y4 → Int → Z2) (p2 : Y2) (low5 : Y4) : Z2 :=
  L13 p2 low5 (0 : Int)
def zz13_s (L3 : Y4 → Y2 → Y4 → Int → Z2) (p_0 : Y2) (some_1 : Y4) : Z2 :=
  L3 some_1 p_0 [] (0 : Int)
def zz13_l7 (N : Nat) (k : Y4 → Y2 → Y4 → Int → Bool → Z2) : Nat → Y4 → Y2 → Y4 → Int → Bool → Int → Z2
  | 0, _, _, _, _, _, _ => none
  | m + 1, some1, p2, low5, z6, all7, i8 => zz13_b7 (zz13_l7 N k m) k some1 p2 low5 z6 all7 i8
def zz13_F7 (N : Nat) (rec : Y4 → Y2 → Y4 → Int → Z2) (k : Y2 → Y4 → Z2) (some1 : Y4) (p2 : Y2) (low5 : Y4) (z6 : Int) (all7 : Bool) (i8 : Int) : Z2 := zz13_l7 N (zz13_a7 rec) N some1 p2 low5 z6 all7 i8
def zz13_l3 (N : Nat) (k : Y2 → Y4 → Z2) : Nat → Y4 → Y2 → Y4 → Int → Z2
  | 0, _, _, _, _ => none
  | m + 1, some1, p2, low5, z6 => zz13_b3 (zz13_F7 N (zz13_l3 N k m) k) k some1 p2 low5 z6
def zz13_l13 (N : Nat) (k : Z2) : Nat → Y2 → Y4 → Int → Z2
  | 0, _, _, _ => none
  | m + 1, p2, low5, i9 => zz13_b13 (zz13_l13 N k m) k p2 low5 i9
def zz13_F13 (N : Nat) (p2 : Y2) (low5 : Y4) (i9 : Int) : Z2 := zz13_l13 N (zz13_a13) N p2 low5 i9
def zz13_F3 (N : Nat) (some1 : Y4) (p2 : Y2) (low5 : Y4) (z6 : Int) : Z2 := zz13_l3 N (zz13_a3 (zz13_F13 N)) N some1 p2 low5 z6
def zz13 (N : Nat) (p_0 : Y2) (some_1 : Y4) : Z2 := zz13_s (zz13_F3 N) p_0 some_1
def S_zz13 : Sig := { a := (.pair (.pair (.sl (.sl I)) .unit) (.pair (.sl I) .unit)), md := [0, 0], mf := [], m := .unit, r := I, rf := .i, f := fun x => zz13 big x.1 x.2.1 }
def A_zz13 : Cfg := mkCfg tab [(69, S_zz11), (31, S_zz9)] [(6, [.drop, .as (.sl I) .i, .as (.ptr (.pair (.sl (.sl I)) .unit)) (.o .i), .drop, .drop, .as (.sl I) (.o .i), .as I .i]), (14, [.drop, .as (.sl I) .i, .as (.ptr (.pair (.sl (.sl I)) .unit)) (.o .i), .drop, .drop, .as (.sl I) (.o .i), .as I .i, .as .bool .i, .as I .i]), (25, [.drop, .drop, .as (.ptr (.pair (.sl (.sl I)) .unit)) (.o .i), .drop, .drop, .as (.sl I) (.o .i)]), (26, [.drop, .drop, .as (.ptr (.pair (.sl (.sl I)) .unit)) (.o .i), .drop, .drop, .as (.sl I) (.o .i), .drop, .drop, .drop, .as I .i]), (21, [.drop, .as (.sl I) .i, .as (.ptr (.pair (.sl (.sl I)) .unit)) (.o .i), .drop, .drop, .as (.sl I) (.o .i), .as I .i, .as .bool .i]), (35, [])]
noncomputable def zz13_R3 (N n : Nat) (K : Ex → St → Z2) (some1 : Y4) (p2 : Y2) (low5 : Y4) (z6 : Int) : Z2 := iter ((A_zz13).shape 6) (run (A_zz13) N (codeAt Tryz.f47 [1, 1, 0, 1, 0, 0])) n ([.u, .val (.sl I) .i some1, .val (.ptr (.pair (.sl (.sl I)) .unit)) (.o .i) p2, .u, .u, .val (.sl I) (.o .i) low5, .val I .i z6] ++ List.replicate 52 .u) K
noncomputable def zz13_R7 (N n : Nat) (K : Ex → St → Z2) (some1 : Y4) (p2 : Y2) (low5 : Y4) (z6 : Int) (all7 : Bool) (i8 : Int) : Z2 := iter ((A_zz13).shape 14) (run (A_zz13) N (codeAt Tryz.f47 [1, 1, 0, 1, 0, 0, 1, 0, 0, 1, 0, 1, 0, 0])) n ([.u, .val (.sl I) .i some1, .val (.ptr (.pair (.sl (.sl I)) .unit)) (.o .i) p2, .u, .u, .val (.sl I) (.o .i) low5, .val I .i z6, .val .bool .i all7, .val I .i i8] ++ List.replicate 50 .u) K
noncomputable def zz13_R13 (N n : Nat) (K : Ex → St → Z2) (p2 : Y2) (low5 : Y4) (i9 : Int) : Z2 := iter ((A_zz13).shape 26) (run (A_zz13) N (codeAt Tryz.f47 [1, 1, 1, 0, 1, 0, 0])) n ([.u, .u, .val (.ptr (.pair (.sl (.sl I)) .unit)) (.o .i) p2, .u, .u, .val (.sl I) (.o .i) low5, .u, .u, .u, .val I .i i9] ++ List.replicate 49 .u) K
noncomputable abbrev zz13_z : Ex → St → Z2 := finish (A_zz13) S_zz13 Tryz.f47.results.toList
noncomputable abbrev zz13_X3 (kX : St → Z2) : Y2 → Y4 → Z2 := fun (p2 : Y2) (low5 : Y4) => kX ([.u, .u, .val (.ptr (.pair (.sl (.sl I)) .unit)) (.o .i) p2, .u, .u, .val (.sl I) (.o .i) low5] ++ List.replicate 53 .u)
noncomputable abbrev zz13_E3 (kX : St → Z2) (kO : Nat → St → Z2) : Ex → St → Z2 := exK zz13_z 0 ((A_zz13).shape 25) kX kO
noncomputable abbrev zz13_X7 (kX : St → Z2) : Y4 → Y2 → Y4 → Int → Bool → Z2 := fun (some1 : Y4) (p2 : Y2) (low5 : Y4) (z6 : Int) (all7 : Bool) => kX ([.u, .val (.sl I) .i some1, .val (.ptr (.pair (.sl (.sl I)) .unit)) (.o .i) p2, .u, .u, .val (.sl I) (.o .i) low5, .val I .i z6, .val .bool .i all7] ++ List.replicate 51 .u)
noncomputable abbrev zz13_E7 (kX : St → Z2) (kO : Nat → St → Z2) : Ex → St → Z2 := exK zz13_z 2 ((A_zz13).shape 21) kX kO
noncomputable abbrev zz13_X13 (kX : St → Z2) : Z2 := kX ([] ++ List.replicate 59 .u)
noncomputable abbrev zz13_E13 (kX : St → Z2) (kO : Nat → St → Z2) : Ex → St → Z2 := exK zz13_z 4 ((A_zz13).shape 35) kX kO
theorem zz13_step7 (N m : Nat) (kX : St → Z2) (kO : Nat → St → Z2) (some1 : Y4) (p2 : Y2) (low5 : Y4) (z6 : Int) (all7 : Bool) (i8 : Int) : zz13_R7 N (m + 1) (zz13_E7 kX kO) some1 p2 low5 z6 all7 i8 = zz13_b7 (zz13_R7 N m (zz13_E7 kX kO)) (zz13_X7 kX) some1 p2 low5 z6 all7 i8 := by kernel_rfl
theorem zz13_iter7 (N : Nat) (kX : St → Z2) (kO : Nat → St → Z2) : ∀ (n : Nat) (some1 : Y4) (p2 : Y2) (low5 : Y4) (z6 : Int) (all7 : Bool) (i8 : Int), zz13_R7 N n (zz13_E7 kX kO) some1 p2 low5 z6 all7 i8 = zz13_l7 N (zz13_X7 kX) n some1 p2 low5 z6 all7 i8
  | 0, _, _, _, _, _, _ => rfl
  | m + 1, some1, p2, low5, z6, all7, i8 => by
    have hrec : zz13_R7 N m (zz13_E7 kX kO) = (zz13_l7 N (zz13_X7 kX) m) := (funext fun some1 => (funext fun p2 => (funext fun low5 => (funext fun z6 => (funext fun all7 => (funext fun i8 => zz13_iter7 N kX kO m some1 p2 low5 z6 all7 i8))))))
    refine (zz13_step7 N m kX kO some1 p2 low5 z6 all7 i8).trans ?_
    rw [hrec]
    rfl
noncomputable abbrev zz13_K7 (N m : Nat) (kX : St → Z2) (kO : Nat → St → Z2) : Ex → St → Z2 := (blockK 2 (seqK ((A_zz13).shape 21) (run (A_zz13) N (codeAt Tryz.f47 [1, 1, 0, 1, 0, 0, 1, 0, 0, 1, 1])) (blockK 1 (seqK ((A_zz13).shape 9) (run (A_zz13) N (codeAt Tryz.f47 [1, 1, 0, 1, 0, 0, 1, 1])) (iterK ((A_zz13).shape 6) (run (A_zz13) N (codeAt Tryz.f47 [1, 1, 0, 1, 0, 0])) m (zz13_E3 kX kO))))))
noncomputable abbrev zz13_k7 (N m : Nat) (kX : St → Z2) (kO : Nat → St → Z2) : St → Z2 := fun st' => run (A_zz13) N (codeAt Tryz.f47 [1, 1, 0, 1, 0, 0, 1, 0, 0, 1, 1]) st' (blockK 1 (seqK ((A_zz13).shape 9) (run (A_zz13) N (codeAt Tryz.f47 [1, 1, 0, 1, 0, 0, 1, 1])) (iterK ((A_zz13).shape 6) (run (A_zz13) N (codeAt Tryz.f47 [1, 1, 0, 1, 0, 0])) m (zz13_E3 kX kO))))
theorem zz13_after7 (N m : Nat) (kX : St → Z2) (kO : Nat → St → Z2) (some1 : Y4) (p2 : Y2) (low5 : Y4) (z6 : Int) (all7 : Bool) : zz13_X7 (zz13_k7 N m kX kO) some1 p2 low5 z6 all7 = zz13_a7 (zz13_R3 N m (zz13_E3 kX kO)) some1 p2 low5 z6 all7 := by kernel_rfl
theorem zz13_in7 (N m : Nat) (kX : St → Z2) (kO : Nat → St → Z2) (recF : Y4 → Y2 → Y4 → Int → Z2) (hrec : zz13_R3 N m (zz13_E3 kX kO) = recF) (some1 : Y4) (p2 : Y2) (low5 : Y4) (z6 : Int) (all7 : Bool) (i8 : Int) : zz13_R7 N N (zz13_K7 N m kX kO) some1 p2 low5 z6 all7 i8 = zz13_F7 N recF (zz13_X3 kX) some1 p2 low5 z6 all7 i8 :=
  have h : zz13_X7 (zz13_k7 N m kX kO) = (zz13_a7 recF) := (funext fun some1 => (funext fun p2 => (funext fun low5 => (funext fun z6 => (funext fun all7 => (zz13_after7 N m kX kO some1 p2 low5 z6 all7).trans (by rw [hrec]))))))
  ((iter_ex (fun st => by kernel_rfl) (fun st => by kernel_rfl)).trans (zz13_iter7 N (zz13_k7 N m kX kO) (fun j st => (zz13_K7 N m kX kO) (.exit j) st) N some1 p2 low5 z6 all7 i8)).trans (congrArg (fun k => zz13_l7 N k N some1 p2 low5 z6 all7 i8) h)
theorem zz13_step3 (N m : Nat) (kX : St → Z2) (kO : Nat → St → Z2) (some1 : Y4) (p2 : Y2) (low5 : Y4) (z6 : Int) : zz13_R3 N (m + 1) (zz13_E3 kX kO) some1 p2 low5 z6 = zz13_b3 (zz13_R7 N N (zz13_K7 N m kX kO)) (zz13_X3 kX) some1 p2 low5 z6 := by kernel_rfl
theorem zz13_iter3 (N : Nat) (kX : St → Z2) (kO : Nat → St → Z2) : ∀ (n : Nat) (some1 : Y4) (p2 : Y2) (low5 : Y4) (z6 : Int), zz13_R3 N n (zz13_E3 kX kO) some1 p2 low5 z6 = zz13_l3 N (zz13_X3 kX) n some1 p2 low5 z6
  | 0, _, _, _, _ => rfl
  | m + 1, some1, p2, low5, z6 => by
    have hrec : zz13_R3 N m (zz13_E3 kX kO) = (zz13_l3 N (zz13_X3 kX) m) := (funext fun some1 => (funext fun p2 => (funext fun low5 => (funext fun z6 => zz13_iter3 N kX kO m some1 p2 low5 z6))))
    refine (zz13_step3 N m kX kO some1 p2 low5 z6).trans ?_
    rw [(funext fun some1 => (funext fun p2 => (funext fun low5 => (funext fun z6 => (funext fun all7 => (funext fun i8 => zz13_in7 N m kX kO (zz13_l3 N (zz13_X3 kX) m) hrec some1 p2 low5 z6 all7 i8))))))]
    rfl
noncomputable abbrev zz13_K3 (N : Nat) : Ex → St → Z2 := (blockK 0 (seqK ((A_zz13).shape 25) (run (A_zz13) N (codeAt Tryz.f47 [1, 1, 1])) zz13_z))
theorem zz13_step13 (N m : Nat) (kX : St → Z2) (kO : Nat → St → Z2) (p2 : Y2) (low5 : Y4) (i9 : Int) : zz13_R13 N (m + 1) (zz13_E13 kX kO) p2 low5 i9 = zz13_b13 (zz13_R13 N m (zz13_E13 kX kO)) (zz13_X13 kX) p2 low5 i9 := by kernel_rfl
theorem zz13_iter13 (N : Nat) (kX : St → Z2) (kO : Nat → St → Z2) : ∀ (n : Nat) (p2 : Y2) (low5 : Y4) (i9 : Int), zz13_R13 N n (zz13_E13 kX kO) p2 low5 i9 = zz13_l13 N (zz13_X13 kX) n p2 low5 i9
  | 0, _, _, _ => rfl
  | m + 1, p2, low5, i9 => by
    have hrec : zz13_R13 N m (zz13_E13 kX kO) = (zz13_l13 N (zz13_X13 kX) m) := (funext fun p2 => (funext fun low5 => (funext fun i9 => zz13_iter13 N kX kO m p2 low5 i9)))
    refine (zz13_step13 N m kX kO p2 low5 i9).trans ?_
    rw [hrec]
    rfl
noncomputable abbrev zz13_K13 (N : Nat) : Ex → St → Z2 := (blockK 4 (seqK ((A_zz13).shape 35) (run (A_zz13) N (codeAt Tryz.f47 [1, 1, 1, 1])) zz13_z))
noncomputable abbrev zz13_k13 (N : Nat) : St → Z2 := fun st' => run (A_zz13) N (codeAt Tryz.f47 [1, 1, 1, 1]) st' zz13_z
theorem zz13_after13 (N : Nat) : zz13_X13 (zz13_k13 N) = zz13_a13 := by kernel_rfl
theorem zz13_in13 (N : Nat) (p2 : Y2) (low5 : Y4) (i9 : Int) : zz13_R13 N N (zz13_K13 N) p2 low5 i9 = zz13_F13 N p2 low5 i9 :=
  have h : zz13_X13 (zz13_k13 N) = (zz13_a13) := zz13_after13 N
  ((iter_ex (fun st => by kernel_rfl) (fun st => by kernel_rfl)).trans (zz13_iter13 N (zz13_k13 N) (fun j st => (zz13_K13 N) (.exit j) st) N p2 low5 i9)).trans (congrArg (fun k => zz13_l13 N k N p2 low5 i9) h)
noncomputable abbrev zz13_k3 (N : Nat) : St → Z2 := fun st' => run (A_zz13) N (codeAt Tryz.f47 [1, 1, 1]) st' zz13_z
theorem zz13_after3 (N : Nat) (p2 : Y2) (low5 : Y4) : zz13_X3 (zz13_k3 N) p2 low5 = zz13_a3 (zz13_R13 N N (zz13_K13 N)) p2 low5 := by kernel_rfl
theorem zz13_in3 (N : Nat) (some1 : Y4) (p2 : Y2) (low5 : Y4) (z6 : Int) : zz13_R3 N N (zz13_K3 N) some1 p2 low5 z6 = zz13_F3 N some1 p2 low5 z6 :=
  have h : zz13_X3 (zz13_k3 N) = (zz13_a3 (zz13_F13 N)) := (funext fun p2 => (funext fun low5 => (zz13_after3 N p2 low5).trans (by rw [(funext fun p2 => (funext fun low5 => (funext fun i9 => zz13_in13 N p2 low5 i9)))])))
  ((iter_ex (fun st => by kernel_rfl) (fun st => by kernel_rfl)).trans (zz13_iter3 N (zz13_k3 N) (fun j st => (zz13_K3 N) (.exit j) st) N some1 p2 low5 z6)).trans (congrArg (fun k => zz13_l3 N k N some1 p2 low5 z6) h)
theorem run0_zz13 (N : Nat) (x : (S_zz13).a.den) : runF (A_zz13) N Tryz.f47 S_zz13 x = (zz13_s (zz13_R3 N N (zz13_K3 N)) x.1 x.2.1) := by kernel_rfl
theorem run_zz13 (N : Nat) (x : (S_zz13).a.den) : runF (A_zz13) N Tryz.f47 S_zz13 x = zz13 N x.1 x.2.1 := by
  refine (run0_zz13 N x).trans ?_
  rw [(funext fun some1 => (funext fun p2 => (funext fun low5 => (funext fun z6 => zz13_in3 N some1 p2 low5 z6))))]
  rfl
theorem fn_zz13 : FnOk Tryz.prog 47 := ⟨_, Tryz.func47, by kernel_rfl, by kernel_rfl⟩
theorem good_zz13 : Gx.Good Tryz.prog 47 S_zz13 := good_of_run Tryz.func47 (of_decide_eq_true (by kernel_rfl)) fun x r h => ⟨A_zz13, big, mkCfg_ok tabOk, mkCfg_sigs (show SigsOk Tryz.prog [(69, S_zz11), (31, S_zz9)] from ⟨⟨fn_zz11, good_zz11⟩, ⟨fn_zz9, good_zz9⟩, trivial⟩), (run_zz13 big x).trans h⟩

/-! zz14 -/
def zz14_b8 (rec : Y2 → Y2 → Int → Int → Z0) (k : Y2 → Y2 → Int → Z0) (p1 dual3 : Y2) (x4 y5 : Int) : Z0 :=
  cond (decide (y5 < x4))
  ((zz13 big p1 [x4, y5]).bind fun rq3 =>
  cond (decide (rq3.1 < (0 : Int)))
  (some (false, (())))
  ((zz13 big dual3 [x4, y5]).bind fun rq4 =>
  cond (decide (rq4.1 < (0 : Int)))
  (some (false, (())))
  (rec p1 dual3 x4 (IntKind.i64.wrap (y5 + (1 : Int))))))
  (k p1 dual3 x4)
def zz14_a8 (rec : Y2 → Y2 → Int → Z0) (p1 dual3 : Y2) (x4 : Int) : Z0 :=
  rec p1 dual3 (IntKind.i64.wrap (x4 + (1 : Int)))
def zz14_b5 (L8 : Y2 → Y2 → Int → Int → Z0) (k : Z0) (p1 dual3 : Y2) (x4 : Int) : Z0 :=
  cond (decide (x4 < (p1.1.length : Int)))
  (L8 p1 dual3 x4 (0 : Int))
  (k)
def zz14_a5 : Z0 :=
  some (true, (()))
def zz14_s (L5 : Y2 → Y2 → Int → Z0) (p_0 : Y2) : Z0 :=
  (zz10 big p_0).bind fun rq1 =>
  cond (!rq1.1)
  (some (false, (())))
  (cond (decide ((p_0.1.length : Int) = (0 : Int)))
  (some (false, (())))
  ((zz12 big p_0).bind fun rq2 =>
  L5 p_0 rq2.1 (0 : Int)))
def zz14_l8 (N : Nat) (k : Y2 → Y2 → Int → Z0) : Nat → Y2 → Y2 → Int → Int → Z0
  | 0, _, _, _, _ => none
  | m + 1, p1, dual3, x4, y5 => zz14_b8 (zz14_l8 N k m) k p1 dual3 x4 y5
def zz14_F8 (N : Nat) (rec : Y2 → Y2 → Int → Z0) (k : Z0) (p1 dual3 : Y2) (x4 y5 : Int) : Z0 := zz14_l8 N (zz14_a8 rec) N p1 dual3 x4 y5
def zz14_l5 (N : Nat) (k : Z0) : Nat → Y2 → Y2 → Int → Z0
  | 0, _, _, _ => none
  | m + 1, p1, dual3, x4 => zz14_b5 (zz14_F8 N (zz14_l5 N k m) k) k p1 dual3 x4
def zz14_F5 (N : Nat) (p1 dual3 : Y2) (x4 : Int) : Z0 := zz14_l5 N (zz14_a5) N p1 dual3 x4
def zz14 (N : Nat) (p_0 : Y2) : Z0 := zz14_s (zz14_F5 N) p_0
def S_zz14 : Sig := { a := (.pair (.pair (.sl (.sl I)) .unit) .unit), md := [0], mf := [], m := .unit, r := .bool, rf := .i, f := fun x => zz14 big x.1 }
def A_zz14 : Cfg := mkCfg tab [(45, S_zz10), (46, S_zz12), (47, S_zz13)] [(10, [.drop, .as (.ptr (.pair (.sl (.sl I)) .unit)) (.o .i), .drop, .as (.ptr (.pair (.sl (.sl I)) .unit)) (.o (.p (.o (.o .i)) .i)), .as I .i]), (16, [.drop, .as (.ptr (.pair (.sl (.sl I)) .unit)) (.o .i), .drop, .as (.ptr (.pair (.sl (.sl I)) .unit)) (.o (.p (.o (.o .i)) .i)), .as I .i, .as I .i]), (25, []), (13, [.drop, .as (.ptr (.pair (.sl (.sl I)) .unit)) (.o .i), .drop, .as (.ptr (.pair (.sl (.sl I)) .unit)) (.o (.p (.o (.o .i)) .i)), .as I .i])]
noncomputable def zz14_R5 (N n : Nat) (K : Ex → St → Z0) (p1 dual3 : Y2) (x4 : Int) : Z0 := iter ((A_zz14).shape 10) (run (A_zz14) N (codeAt Tryz.f28 [1, 1, 1, 0, 1, 0, 0])) n ([.u, .val (.ptr (.pair (.sl (.sl I)) .unit)) (.o .i) p1, .u, .val (.ptr (.pair (.sl (.sl I)) .unit)) (.o (.p (.o (.o .i)) .i)) dual3, .val I .i x4] ++ List.replicate 38 .u) K
noncomputable def zz14_R8 (N n : Nat) (K : Ex → St → Z0) (p1 dual3 : Y2) (x4 y5 : Int) : Z0 := iter ((A_zz14).shape 16) (run (A_zz14) N (codeAt Tryz.f28 [1, 1, 1, 0, 1, 0, 0, 1, 0, 0, 1, 0, 0])) n ([.u, .val (.ptr (.pair (.sl (.sl I)) .unit)) (.o .i) p1, .u, .val (.ptr (.pair (.sl (.sl I)) .unit)) (.o (.p (.o (.o .i)) .i)) dual3, .val I .i x4, .val I .i y5] ++ List.replicate 37 .u) K
noncomputable abbrev zz14_z : Ex → St → Z0 := finish (A_zz14) S_zz14 Tryz.f28.results.toList
noncomputable abbrev zz14_X5 (kX : St → Z0) : Z0 := kX ([] ++ List.replicate 43 .u)
noncomputable abbrev zz14_E5 (kX : St → Z0) (kO : Nat → St → Z0) : Ex → St → Z0 := exK zz14_z 0 ((A_zz14).shape 25) kX kO
noncomputable abbrev zz14_X8 (kX : St → Z0) : Y2 → Y2 → Int → Z0 := fun (p1 dual3 : Y2) (x4 : Int) => kX ([.u, .val (.ptr (.pair (.sl (.sl I)) .unit)) (.o .i) p1, .u, .val (.ptr (.pair (.sl (.sl I)) .unit)) (.o (.p (.o (.o .i)) .i)) dual3, .val I .i x4] ++ List.replicate 38 .u)
noncomputable abbrev zz14_E8 (kX : St → Z0) (kO : Nat → St → Z0) : Ex → St → Z0 := exK zz14_z 2 ((A_zz14).shape 13) kX kO
theorem zz14_step8 (N m : Nat) (kX : St → Z0) (kO : Nat → St → Z0) (p1 dual3 : Y2) (x4 y5 : Int) : zz14_R8 N (m + 1) (zz14_E8 kX kO) p1 dual3 x4 y5 = zz14_b8 (zz14_R8 N m (zz14_E8 kX kO)) (zz14_X8 kX) p1 dual3 x4 y5 := by kernel_rfl
theorem zz14_iter8 (N : Nat) (kX : St → Z0) (kO : Nat → St → Z0) : ∀ (n : Nat) (p1 dual3 : Y2) (x4 y5 : Int), zz14_R8 N n (zz14_E8 kX kO) p1 dual3 x4 y5 = zz14_l8 N (zz14_X8 kX) n p1 dual3 x4 y5
  | 0, _, _, _, _ => rfl
  | m + 1, p1, dual3, x4, y5 => by
    have hrec : zz14_R8 N m (zz14_E8 kX kO) = (zz14_l8 N (zz14_X8 kX) m) := (funext fun p1 => (funext fun dual3 => (funext fun x4 => (funext fun y5 => zz14_iter8 N kX kO m p1 dual3 x4 y5))))
    refine (zz14_step8 N m kX kO p1 dual3 x4 y5).trans ?_
    rw [hrec]
    rfl
noncomputable abbrev zz14_K8 (N m : Nat) (kX : St → Z0) (kO : Nat → St → Z0) : Ex → St → Z0 := (blockK 2 (blockK 1 (seqK ((A_zz14).shape 13) (run (A_zz14) N (codeAt Tryz.f28 [1, 1, 1, 0, 1, 0, 0, 1, 1])) (iterK ((A_zz14).shape 10) (run (A_zz14) N (codeAt Tryz.f28 [1, 1, 1, 0, 1, 0, 0])) m (zz14_E5 kX kO)))))
noncomputable abbrev zz14_k8 (N m : Nat) (kX : St → Z0) (kO : Nat → St → Z0) : St → Z0 := fun st' => run (A_zz14) N (codeAt Tryz.f28 [1, 1, 1, 0, 1, 0, 0, 1, 1]) st' (iterK ((A_zz14).shape 10) (run (A_zz14) N (codeAt Tryz.f28 [1, 1, 1, 0, 1, 0, 0])) m (zz14_E5 kX kO))
theorem zz14_after8 (N m : Nat) (kX : St → Z0) (kO : Nat → St → Z0) (p1 dual3 : Y2) (x4 : Int) : zz14_X8 (zz14_k8 N m kX kO) p1 dual3 x4 = zz14_a8 (zz14_R5 N m (zz14_E5 kX kO)) p1 dual3 x4 := by kernel_rfl
theorem zz14_in8 (N m : Nat) (kX : St → Z0) (kO : Nat → St → Z0) (recF : Y2 → Y2 → Int → Z0) (hrec : zz14_R5 N m (zz14_E5 kX kO) = recF) (p1 dual3 : Y2) (x4 y5 : Int) : zz14_R8 N N (zz14_K8 N m kX kO) p1 dual3 x4 y5 = zz14_F8 N recF (zz14_X5 kX) p1 dual3 x4 y5 :=
  have h : zz14_X8 (zz14_k8 N m kX kO) = (zz14_a8 recF) := (funext fun p1 => (funext fun dual3 => (funext fun x4 => (zz14_after8 N m kX kO p1 dual3 x4).trans (by rw [hrec]))))
  ((iter_ex (fun st => by kernel_rfl) (fun st => by kernel_rfl)).trans (zz14_iter8 N (zz14_k8 N m kX kO) (fun j st => (zz14_K8 N m kX kO) (.exit j) st) N p1 dual3 x4 y5)).trans (congrArg (fun k => zz14_l8 N k N p1 dual3 x4 y5) h)
theorem zz14_step5 (N m : Nat) (kX : St → Z0) (kO : Nat → St → Z0) (p1 dual3 : Y2) (x4 : Int) : zz14_R5 N (m + 1) (zz14_E5 kX kO) p1 dual3 x4 = zz14_b5 (zz14_R8 N N (zz14_K8 N m kX kO)) (zz14_X5 kX) p1 dual3 x4 := by kernel_rfl
theorem zz14_iter5 (N : Nat) (kX : St → Z0) (kO : Nat → St → Z0) : ∀ (n : Nat) (p1 dual3 : Y2) (x4 : Int), zz14_R5 N n (zz14_E5 kX kO) p1 dual3 x4 = zz14_l5 N (zz14_X5 kX) n p1 dual3 x4
  | 0, _, _, _ => rfl
  | m + 1, p1, dual3, x4 => by
    have hrec : zz14_R5 N m (zz14_E5 kX kO) = (zz14_l5 N (zz14_X5 kX) m) := (funext fun p1 => (funext fun dual3 => (funext fun x4 => zz14_iter5 N kX kO m p1 dual3 x4)))
    refine (zz14_step5 N m kX kO p1 dual3 x4).trans ?_
    rw [(funext fun p1 => (funext fun dual3 => (funext fun x4 => (funext fun y5 => zz14_in8 N m kX kO (zz14_l5 N (zz14_X5 kX) m) hrec p1 dual3 x4 y5))))]
    rfl
noncomputable abbrev zz14_K5 (N : Nat) : Ex → St → Z0 := (blockK 0 (seqK ((A_zz14).shape 25) (run (A_zz14) N (codeAt Tryz.f28 [1, 1, 1, 1])) zz14_z))
noncomputable abbrev zz14_k5 (N : Nat) : St → Z0 := fun st' => run (A_zz14) N (codeAt Tryz.f28 [1, 1, 1, 1]) st' zz14_z
theorem zz14_after5 (N : Nat) : zz14_X5 (zz14_k5 N) = zz14_a5 := by kernel_rfl
theorem zz14_in5 (N : Nat) (p1 dual3 : Y2) (x4 : Int) : zz14_R5 N N (zz14_K5 N) p1 dual3 x4 = zz14_F5 N p1 dual3 x4 :=
  have h : zz14_X5 (zz14_k5 N) = (zz14_a5) := zz14_after5 N
  ((iter_ex (fun st => by kernel_rfl) (fun st => by kernel_rfl)).trans (zz14_iter5 N (zz14_k5 N) (fun j st => (zz14_K5 N) (.exit j) st) N p1 dual3 x4)).trans (congrArg (fun k => zz14_l5 N k N p1 dual3 x4) h)
theorem run0_zz14 (N : Nat) (x : (S_zz14).a.den) : runF (A_zz14) N Tryz.f28 S_zz14 x = (zz14_s (zz14_R5 N N (zz14_K5 N)) x.1) := by kernel_rfl
theorem run_zz14 (N : Nat) (x : (S_zz14).a.den) : runF (A_zz14) N Tryz.f28 S_zz14 x = zz14 N x.1 := by
  refine (run0_zz14 N x).trans ?_
  rw [(funext fun p1 => (funext fun dual3 => (funext fun x4 => zz14_in5 N p1 dual3 x4)))]
  rfl
theorem fn_zz14 : FnOk Tryz.prog 28 := ⟨_, Tryz.func28, by kernel_rfl, by kernel_rfl⟩
theorem good_zz14 : Gx.Good Tryz.prog 28 S_zz14 := good_of_run Tryz.func28 (of_decide_eq_true (by kernel_rfl)) fun x r h => ⟨A_zz14, big, mkCfg_ok tabOk, mkCfg_sigs (show SigsOk Tryz.prog [(45, S_zz10), (46, S_zz12), (47, S_zz13)] from ⟨⟨fn_zz10, good_zz10⟩, ⟨fn_zz12, good_zz12⟩, ⟨fn_zz13, good_zz13⟩, trivial⟩), (run_zz14 big x).trans h⟩

/-! zz15 -/
def zz15_s (p_0 : Y2) : Z0 :=
  cond (decide ((p_0.1.length : Int) ≤ (8 : Int)))
  ((zz14 big p_0).bind fun rq1 =>
  some (rq1.1, (())))
  (some (false, (())))
def zz15 (p_0 : Y2) : Z0 := zz15_s p_0
def S_zz15 : Sig := { a := (.pair (.pair (.sl (.sl I)) .unit) .unit), md := [0], mf := [], m := .unit, r := .bool, rf := .i, f := fun x => zz15 x.1 }
def A_zz15 : Cfg := mkCfg tab [(28, S_zz14)] []
theorem run_zz15 (N : Nat) (x : (S_zz15).a.den) : runF (A_zz15) N Tryz.f14 S_zz15 x = zz15 x.1 := by kernel_rfl
theorem fn_zz15 : FnOk Tryz.prog 14 := ⟨_, Tryz.func14, by kernel_rfl, by kernel_rfl⟩
theorem good_zz15 : Gx.Good Tryz.prog 14 S_zz15 := good_of_run Tryz.func14 (of_decide_eq_true (by kernel_rfl)) fun x r h => ⟨A_zz15, big, mkCfg_ok tabOk, mkCfg_sigs (show SigsOk Tryz.prog [(28, S_zz14)] from ⟨⟨fn_zz14, good_zz14⟩, trivial⟩), (run_zz15 big x).trans h⟩

/-! zz16 -/
def zz16_s (p_0 : Y2) (x_1 y_2 : Int) : Z0 :=
  cond (decide (x_1 ≠ y_2))
  ((zz11 p_0 x_1 y_2).bind fun rq1 =>
  some (rq1.1, (())))
  (some (false, (())))
def zz16 (p_0 : Y2) (x_1 y_2 : Int) : Z0 := zz16_s p_0 x_1 y_2
def S_zz16 : Sig := { a := (.pair (.pair (.sl (.sl I)) .unit) (.pair I (.pair I .unit))), md := [0, 0, 0], mf := [], m := .unit, r := .bool, rf := .i, f := fun x => zz16 x.1 x.2.1 x.2.2.1 }
def A_zz16 : Cfg := mkCfg tab [(69, S_zz11)] []
theorem run_zz16 (N : Nat) (x : (S_zz16).a.den) : runF (A_zz16) N Tryz.f70 S_zz16 x = zz16 x.1 x.2.1 x.2.2.1 := by kernel_rfl
theorem fn_zz16 : FnOk Tryz.prog 70 := ⟨_, Tryz.func70, by kernel_rfl, by kernel_rfl⟩
theorem good_zz16 : Gx.Good Tryz.prog 70 S_zz16 := good_of_run Tryz.func70 (of_decide_eq_true (by kernel_rfl)) fun x r h => ⟨A_zz16, big, mkCfg_ok tabOk, mkCfg_sigs (show SigsOk Tryz.prog [(69, S_zz11)] from ⟨⟨fn_zz11, good_zz11⟩, trivial⟩), (run_zz16 big x).trans h⟩

/-! zz17 -/
def zz17_b4 (rec : Int → Int → Y2 → Int → Z0) (k : Z0) (x1 y2 : Int) (p3 : Y2) (z7 : Int) : Z0 :=
  cond (decide (z7 < (p3.1.length : Int)))
  ((zz16 p3 x1 z7).bind fun rq2 =>
  cond rq2.1
  ((zz16 p3 z7 y2).bind fun rq3 =>
  cond rq3.1
  (some (false, (())))
  (rec x1 y2 p3 (IntKind.i64.wrap (z7 + (1 : Int)))))
  (rec x1 y2 p3 (IntKind.i64.wrap (z7 + (1 : Int)))))
  (k)
def zz17_a4 : Z0 :=
  some (true, (()))
def zz17_s (L4 : Int → Int → Y2 → Int → Z0) (p_0 : Y2) (x_1 y_2 : Int) : Z0 :=
  (zz16 p_0 x_1 y_2).bind fun rq1 =>
  cond (!rq1.1)
  (some (false, (())))
  (L4 x_1 y_2 p_0 (0 : Int))
def zz17_l4 (N : Nat) (k : Z0) : Nat → Int → Int → Y2 → Int → Z0
  | 0, _, _, _, _ => none
  | m + 1, x1, y2, p3, z7 => zz17_b4 (zz17_l4 N k m) k x1 y2 p3 z7
def zz17_F4 (N : Nat) (x1 y2 : Int) (p3 : Y2) (z7 : Int) : Z0 := zz17_l4 N (zz17_a4) N x1 y2 p3 z7
def zz17 (N : Nat) (p_0 : Y2) (x_1 y_2 : Int) : Z0 := zz17_s (zz17_F4 N) p_0 x_1 y_2
def S_zz17 : Sig := { a := (.pair (.pair (.sl (.sl I)) .unit) (.pair I (.pair I .unit))), md := [0, 0, 0], mf := [], m := .unit, r := .bool, rf := .i, f := fun x => zz17 big x.1 x.2.1 x.2.2.1 }
def A_zz17 : Cfg := mkCfg tab [(70, S_zz16)] [(8, [.drop, .as I .i, .as I .i, .as (.ptr (.pair (.sl (.sl I)) .unit)) (.o .i), .drop, .drop, .drop, .as I .i]), (17, [])]
noncomputable def zz17_R4 (N n : Nat) (K : Ex → St → Z0) (x1 y2 : Int) (p3 : Y2) (z7 : Int) : Z0 := iter ((A_zz17).shape 8) (run (A_zz17) N (codeAt Tryz.f48 [1, 1, 0, 1, 0, 0])) n ([.u, .val I .i x1, .val I .i y2, .val (.ptr (.pair (.sl (.sl I)) .unit)) (.o .i) p3, .u, .u, .u, .val I .i z7] ++ List.replicate 22 .u) K
noncomputable abbrev zz17_z : Ex → St → Z0 := finish (A_zz17) S_zz17 Tryz.f48.results.toList
noncomputable abbrev zz17_X4 (kX : St → Z0) : Z0 := kX ([] ++ List.replicate 30 .u)
noncomputable abbrev zz17_E4 (kX : St → Z0) (kO : Nat → St → Z0) : Ex → St → Z0 := exK zz17_z 0 ((A_zz17).shape 17) kX kO
theorem zz17_step4 (N m : Nat) (kX : St → Z0) (kO : Nat → St → Z0) (x1 y2 : Int) (p3 : Y2) (z7 : Int) : zz17_R4 N (m + 1) (zz17_E4 kX kO) x1 y2 p3 z7 = zz17_b4 (zz17_R4 N m (zz17_E4 kX kO)) (zz17_X4 kX) x1 y2 p3 z7 := by kernel_rfl
theorem zz17_iter4 (N : Nat) (kX : St → Z0) (kO : Nat → St → Z0) : ∀ (n : Nat) (x1 y2 : Int) (p3 : Y2) (z7 : Int), zz17_R4 N n (zz17_E4 kX kO) x1 y2 p3 z7 = zz17_l4 N (zz17_X4 kX) n x1 y2 p3 z7
  | 0, _, _, _, _ => rfl
  | m + 1, x1, y2, p3, z7 => by
    have hrec : zz17_R4 N m (zz17_E4 kX kO) = (zz17_l4 N (zz17_X4 kX) m) := (funext fun x1 => (funext fun y2 => (funext fun p3 => (funext fun z7 => zz17_iter4 N kX kO m x1 y2 p3 z7))))
    refine (zz17_step4 N m kX kO x1 y2 p3 z7).trans ?_
    rw [hrec]
    rfl
noncomputable abbrev zz17_K4 (N : Nat) : Ex → St → Z0 := (blockK 0 (seqK ((A_zz17).shape 17) (run (A_zz17) N (codeAt Tryz.f48 [1, 1, 1])) zz17_z))
noncomputable abbrev zz17_k4 (N : Nat) : St → Z0 := fun st' => run (A_zz17) N (codeAt Tryz.f48 [1, 1, 1]) st' zz17_z
theorem zz17_after4 (N : Nat) : zz17_X4 (zz17_k4 N) = zz17_a4 := by kernel_rfl
theorem zz17_in4 (N : Nat) (x1 y2 : Int) (p3 : Y2) (z7 : Int) : zz17_R4 N N (zz17_K4 N) x1 y2 p3 z7 = zz17_F4 N x1 y2 p3 z7 :=
  have h : zz17_X4 (zz17_k4 N) = (zz17_a4) := zz17_after4 N
  ((iter_ex (fun st => by kernel_rfl) (fun st => by kernel_rfl)).trans (zz17_iter4 N (zz17_k4 N) (fun j st => (zz17_K4 N) (.exit j) st) N x1 y2 p3 z7)).trans (congrArg (fun k => zz17_l4 N k N x1 y2 p3 z7) h)
theorem run0_zz17 (N : Nat) (x : (S_zz17).a.den) : runF (A_zz17) N Tryz.f48 S_zz17 x = (zz17_s (zz17_R4 N N (zz17_K4 N)) x.1 x.2.1 x.2.2.1) := by kernel_rfl
theorem run_zz17 (N : Nat) (x : (S_zz17).a.den) : runF (A_zz17) N Tryz.f48 S_zz17 x = zz17 N x.1 x.2.1 x.2.2.1 := by
  refine (run0_zz17 N x).trans ?_
  rw [(funext fun x1 => (funext fun y2 => (funext fun p3 => (funext fun z7 => zz17_in4 N x1 y2 p3 z7))))]
  rfl
theorem fn_zz17 : FnOk Tryz.prog 48 := ⟨_, Tryz.func48, by kernel_rfl, by kernel_rfl⟩
theorem good_zz17 : Gx.Good Tryz.prog 48 S_zz17 := good_of_run Tryz.func48 (of_decide_eq_true (by kernel_rfl)) fun x r h => ⟨A_zz17, big, mkCfg_ok tabOk, mkCfg_sigs (show SigsOk Tryz.prog [(70, S_zz16)] from ⟨⟨fn_zz16, good_zz16⟩, trivial⟩), (run_zz17 big x).trans h⟩

/-! zz18 -/
def zz18_b7 (rec : Y2 → Y4 → Int → Int → Int → Z1) (k : Y2 → Y4 → Int → Int → Z1) (p1 : Y2) (out3 : Y4) (y4 n5 x6 : Int) : Z1 :=
  cond (decide (x6 < (p1.1.length : Int)))
  ((zz17 big p1 x6 y4).bind fun rq1 =>
  cond rq1.1
  (rec p1 out3 y4 (IntKind.i64.wrap (n5 + (1 : Int))) (IntKind.i64.wrap (x6 + (1 : Int))))
  (rec p1 out3 y4 n5 (IntKind.i64.wrap (x6 + (1 : Int)))))
  (k p1 out3 y4 n5)
def zz18_a7 (rec : Y2 → Y4 → Int → Z1) (p1 : Y2) (out3 : Y4) (y4 n5 : Int) : Z1 :=
  cond (decide (n5 = (1 : Int)))
  ((appI out3 [y4]).bind fun xq2 =>
  rec p1 xq2 (IntKind.i64.wrap (y4 + (1 : Int))))
  (rec p1 out3 (IntKind.i64.wrap (y4 + (1 : Int))))
def zz18_b3 (L7 : Y2 → Y4 → Int → Int → Int → Z1) (k : Y4 → Z1) (p1 : Y2) (out3 : Y4) (y4 : Int) : Z1 :=
  cond (decide (y4 < (p1.1.length : Int)))
  (L7 p1 out3 y4 (0 : Int) (0 : Int))
  (k out3)
def zz18_a3 (out3 : Y4) : Z1 :=
  some (out3, (()))
def zz18_s (L3 : Y2 → Y4 → Int → Z1) (p_0 : Y2) : Z1 :=
  L3 p_0 [] (0 : Int)
def zz18_l7 (N : Nat) (k : Y2 → Y4 → Int → Int → Z1) : Nat → Y2 → Y4 → Int → Int → Int → Z1
  | 0, _, _, _, _, _ => none
  | m + 1, p1, out3, y4, n5, x6 => zz18_b7 (zz18_l7 N k m) k p1 out3 y4 n5 x6
def zz18_F7 (N : Nat) (rec : Y2 → Y4 → Int → Z1) (k : Y4 → Z1) (p1 : Y2) (out3 : Y4) (y4 n5 x6 : Int) : Z1 := zz18_l7 N (zz18_a7 rec) N p1 out3 y4 n5 x6
def zz18_l3 (N : Nat) (k : Y4 → Z1) : Nat → Y2 → Y4 → Int → Z1
  | 0, _, _, _ => none
  | m + 1, p1, out3, y4 => zz18_b3 (zz18_F7 N (zz18_l3 N k m) k) k p1 out3 y4
def zz18_F3 (N : Nat) (p1 : Y2) (out3 : Y4) (y4 : Int) : Z1 := zz18_l3 N (zz18_a3) N p1 out3 y4
def zz18 (N : Nat) (p_0 : Y2) : Z1 := zz18_s (zz18_F3 N) p_0
def S_zz18 : Sig := { a := (.pair (.pair (.sl (.sl I)) .unit) .unit), md := [0], mf := [], m := .unit, r := (.sl I), rf := (.o .i), f := fun x => zz18 big x.1 }
def A_zz18 : Cfg := mkCfg tab [(48, S_zz17)] [(6, [.drop, .as (.ptr (.pair (.sl (.sl I)) .unit)) (.o .i), .drop, .as (.sl I) (.o .i), .as I .i]), (14, [.drop, .as (.ptr (.pair (.sl (.sl I)) .unit)) (.o .i), .drop, .as (.sl I) (.o .i), .as I .i, .as I .i, .as I .i]), (27, [.drop, .drop, .drop, .as (.sl I) (.o .i)]), (23, [.drop, .as (.ptr (.pair (.sl (.sl I)) .unit)) (.o .i), .drop, .as (.sl I) (.o .i), .as I .i, .as I .i])]
noncomputable def zz18_R3 (N n : Nat) (K : Ex → St → Z1) (p1 : Y2) (out3 : Y4) (y4 : Int) : Z1 := iter ((A_zz18).shape 6) (run (A_zz18) N (codeAt Tryz.f29 [1, 1, 0, 1, 0, 0])) n ([.u, .val (.ptr (.pair (.sl (.sl I)) .unit)) (.o .i) p1, .u, .val (.sl I) (.o .i) out3, .val I .i y4] ++ List.replicate 30 .u) K
noncomputable def zz18_R7 (N n : Nat) (K : Ex → St → Z1) (p1 : Y2) (out3 : Y4) (y4 n5 x6 : Int) : Z1 := iter ((A_zz18).shape 14) (run (A_zz18) N (codeAt Tryz.f29 [1, 1, 0, 1, 0, 0, 1, 0, 0, 1, 0, 1, 0, 0])) n ([.u, .val (.ptr (.pair (.sl (.sl I)) .unit)) (.o .i) p1, .u, .val (.sl I) (.o .i) out3, .val I .i y4, .val I .i n5, .val I .i x6] ++ List.replicate 28 .u) K
noncomputable abbrev zz18_z : Ex → St → Z1 := finish (A_zz18) S_zz18 Tryz.f29.results.toList
noncomputable abbrev zz18_X3 (kX : St → Z1) : Y4 → Z1 := fun (out3 : Y4) => kX ([.u, .u, .u, .val (.sl I) (.o .i) out3] ++ List.replicate 31 .u)
noncomputable abbrev zz18_E3 (kX : St → Z1) (kO : Nat → St → Z1) : Ex → St → Z1 := exK zz18_z 0 ((A_zz18).shape 27) kX kO
noncomputable abbrev zz18_X7 (kX : St → Z1) : Y2 → Y4 → Int → Int → Z1 := fun (p1 : Y2) (out3 : Y4) (y4 n5 : Int) => kX ([.u, .val (.ptr (.pair (.sl (.sl I)) .unit)) (.o .i) p1, .u, .val (.sl I) (.o .i) out3, .val I .i y4, .val I .i n5] ++ List.replicate 29 .u)
noncomputable abbrev zz18_E7 (kX : St → Z1) (kO : Nat → St → Z1) : Ex → St → Z1 := exK zz18_z 2 ((A_zz18).shape 23) kX kO
theorem zz18_step7 (N m : Nat) (kX : St → Z1) (kO : Nat → St → Z1) (p1 : Y2) (out3 : Y4) (y4 n5 x6 : Int) : zz18_R7 N (m + 1) (zz18_E7 kX kO) p1 out3 y4 n5 x6 = zz18_b7 (zz18_R7 N m (zz18_E7 kX kO)) (zz18_X7 kX) p1 out3 y4 n5 x6 := by kernel_rfl
theorem zz18_iter7 (N : Nat) (kX : St → Z1) (kO : Nat → St → Z1) : ∀ (n : Nat) (p1 : Y2) (out3 : Y4) (y4 n5 x6 : Int), zz18_R7 N n (zz18_E7 kX kO) p1 out3 y4 n5 x6 = zz18_l7 N (zz18_X7 kX) n p1 out3 y4 n5 x6
  | 0, _, _, _, _, _ => rfl
  | m + 1, p1, out3, y4, n5, x6 => by
    have hrec : zz18_R7 N m (zz18_E7 kX kO) = (zz18_l7 N (zz18_X7 kX) m) := (funext fun p1 => (funext fun out3 => (funext fun y4 => (funext fun n5 => (funext fun x6 => zz18_iter7 N kX kO m p1 out3 y4 n5 x6)))))
    refine (zz18_step7 N m kX kO p1 out3 y4 n5 x6).trans ?_
    rw [hrec]
    rfl
noncomputable abbrev zz18_K7 (N m : Nat) (kX : St → Z1) (kO : Nat → St → Z1) : Ex → St → Z1 := (blockK 2 (seqK ((A_zz18).shape 23) (run (A_zz18) N (codeAt Tryz.f29 [1, 1, 0, 1, 0, 0, 1, 0, 0, 1, 1])) (blockK 1 (seqK ((A_zz18).shape 9) (run (A_zz18) N (codeAt Tryz.f29 [1, 1, 0, 1, 0, 0, 1, 1])) (iterK ((A_zz18).shape 6) (run (A_zz18) N (codeAt Tryz.f29 [1, 1, 0, 1, 0, 0])) m (zz18_E3 kX kO))))))
noncomputable abbrev zz18_k7 (N m : Nat) (kX : St → Z1) (kO : Nat → St → Z1) : St → Z1 := fun st' => run (A_zz18) N (codeAt Tryz.f29 [1, 1, 0, 1, 0, 0, 1, 0, 0, 1, 1]) st' (blockK 1 (seqK ((A_zz18).shape 9) (run (A_zz18) N (codeAt Tryz.f29 [1, 1, 0, 1, 0, 0, 1, 1])) (iterK ((A_zz18).shape 6) (run (A_zz18) N (codeAt Tryz.f29 [1, 1, 0, 1, 0, 0])) m (zz18_E3 kX kO))))
theorem zz18_after7 (N m : Nat) (kX : St → Z1) (kO : Nat → St → Z1) (p1 : Y2) (out3 : Y4) (y4 n5 : Int) : zz18_X7 (zz18_k7 N m kX kO) p1 out3 y4 n5 = zz18_a7 (zz18_R3 N m (zz18_E3 kX kO)) p1 out3 y4 n5 := by kernel_rfl
theorem zz18_in7 (N m : Nat) (kX : St → Z1) (kO : Nat → St → Z1) (recF : Y2 → Y4 → Int → Z1) (hrec : zz18_R3 N m (zz18_E3 kX kO) = recF) (p1 : Y2) (out3 : Y4) (y4 n5 x6 : Int) : zz18_R7 N N (zz18_K7 N m kX kO) p1 out3 y4 n5 x6 = zz18_F7 N recF (zz18_X3 kX) p1 out3 y4 n5 x6 :=
  have h : zz18_X7 (zz18_k7 N m kX kO) = (zz18_a7 recF) := (funext fun p1 => (funext fun out3 => (funext fun y4 => (funext fun n5 => (zz18_after7 N m kX kO p1 out3 y4 n5).trans (by rw [hrec])))))
  ((iter_ex (fun st => by kernel_rfl) (fun st => by kernel_rfl)).trans (zz18_iter7 N (zz18_k7 N m kX kO) (fun j st => (zz18_K7 N m kX kO) (.exit j) st) N p1 out3 y4 n5 x6)).trans (congrArg (fun k => zz18_l7 N k N p1 out3 y4 n5 x6) h)
theorem zz18_step3 (N m : Nat) (kX : St → Z1) (kO : Nat → St → Z1) (p1 : Y2) (out3 : Y4) (y4 : Int) : zz18_R3 N (m + 1) (zz18_E3 kX kO) p1 out3 y4 = zz18_b3 (zz18_R7 N N (zz18_K7 N m kX kO)) (zz18_X3 kX) p1 out3 y4 := by kernel_rfl
theorem zz18_iter3 (N : Nat) (kX : St → Z1) (kO : Nat → St → Z1) : ∀ (n : Nat) (p1 : Y2) (out3 : Y4) (y4 : Int), zz18_R3 N n (zz18_E3 kX kO) p1 out3 y4 = zz18_l3 N (zz18_X3 kX) n p1 out3 y4
  | 0, _, _, _ => rfl
  | m + 1, p1, out3, y4 => by
    have hrec : zz18_R3 N m (zz18_E3 kX kO) = (zz18_l3 N (zz18_X3 kX) m) := (funext fun p1 => (funext fun out3 => (funext fun y4 => zz18_iter3 N kX kO m p1 out3 y4)))
    refine (zz18_step3 N m kX kO p1 out3 y4).trans ?_
    rw [(funext fun p1 => (funext fun out3 => (funext fun y4 => (funext fun n5 => (funext fun x6 => zz18_in7 N m kX kO (zz18_l3 N (zz18_X3 kX) m) hrec p1 out3 y4 n5 x6)))))]
    rfl
noncomputable abbrev zz18_K3 (N : Nat) : Ex → St → Z1 := (blockK 0 (seqK ((A_zz18).shape 27) (run (A_zz18) N (codeAt Tryz.f29 [1, 1, 1])) zz18_z))
noncomputable abbrev zz18_k3 (N : Nat) : St → Z1 := fun st' => run (A_zz18) N (codeAt Tryz.f29 [1, 1, 1]) st' zz18_z
theorem zz18_after3 (N : Nat) (out3 : Y4) : zz18_X3 (zz18_k3 N) out3 = zz18_a3 out3 := by kernel_rfl
theorem zz18_in3 (N : Nat) (p1 : Y2) (out3 : Y4) (y4 : Int) : zz18_R3 N N (zz18_K3 N) p1 out3 y4 = zz18_F3 N p1 out3 y4 :=
  have h : zz18_X3 (zz18_k3 N) = (zz18_a3) := (funext fun out3 => zz18_after3 N out3)
  ((iter_ex (fun st => by kernel_rfl) (fun st => by kernel_rfl)).trans (zz18_iter3 N (zz18_k3 N) (fun j st => (zz18_K3 N) (.exit j) st) N p1 out3 y4)).trans (congrArg (fun k => zz18_l3 N k N p1 out3 y4) h)
theorem run0_zz18 (N : Nat) (x : (S_zz18).a.den) : runF (A_zz18) N Tryz.f29 S_zz18 x = (zz18_s (zz18_R3 N N (zz18_K3 N)) x.1) := by kernel_rfl
theorem run_zz18 (N : Nat) (x : (S_zz18).a.den) : runF (A_zz18) N Tryz.f29 S_zz18 x = zz18 N x.1 := by
  refine (run0_zz18 N x).trans ?_
  rw [(funext fun p1 => (funext fun out3 => (funext fun y4 => zz18_in3 N p1 out3 y4)))]
  rfl
theorem fn_zz18 : FnOk Tryz.prog 29 := ⟨_, Tryz.func29, by kernel_rfl, by kernel_rfl⟩
theorem good_zz18 : Gx.Good Tryz.prog 29 S_zz18 := good_of_run Tryz.func29 (of_decide_eq_true (by kernel_rfl)) fun x r h => ⟨A_zz18, big, mkCfg_ok tabOk, mkCfg_sigs (show SigsOk Tryz.prog [(48, S_zz17)] from ⟨⟨fn_zz17, good_zz17⟩, trivial⟩), (run_zz18 big x).trans h⟩

/-! zz19 -/
def zz19_b8 (rec : Y2 → Y7 → Int → Y2 → Y6 → Y6 → Int → Int → Z7) (k : Y2 → Y7 → Int → Y2 → Y6 → Y6 → Int → Z7) (p1 : Y2) (t2 : Y7) (n3 : Int) (dual4 : Y2) (meet5 join6 : Y6) (x7 y8 : Int) : Z7 :=
  cond (decide (y8 < n3))
  ((zz13 big p1 [x7, y8]).bind fun rq2 =>
  (appI meet5.2.1 [rq2.1]).bind fun xq3 =>
  (zz13 big dual4 [x7, y8]).bind fun rq4 =>
  (appI join6.2.1 [rq4.1]).bind fun xq5 =>
  rec p1 t2 n3 dual4 ((meet5.1, ((), meet5.2.2)).1, (xq3, ((meet5.1, ((), meet5.2.2)).2).2)) ((join6.1, ((), join6.2.2)).1, (xq5, ((join6.1, ((), join6.2.2)).2).2)) x7 (IntKind.i64.wrap (y8 + (1 : Int))))
  (k p1 t2 n3 dual4 meet5 join6 x7)
def zz19_a8 (rec : Y2 → Y7 → Int → Y2 → Y6 → Y6 → Int → Z7) (p1 : Y2) (t2 : Y7) (n3 : Int) (dual4 : Y2) (meet5 join6 : Y6) (x7 : Int) : Z7 :=
  rec p1 t2 n3 dual4 meet5 join6 (IntKind.i64.wrap (x7 + (1 : Int)))
def zz19_b5 (L8 : Y2 → Y7 → Int → Y2 → Y6 → Y6 → Int → Int → Z7) (k : Y7 → Int → Y6 → Y6 → Z7) (p1 : Y2) (t2 : Y7) (n3 : Int) (dual4 : Y2) (meet5 join6 : Y6) (x7 : Int) : Z7 :=
  cond (decide (x7 < n3))
  (L8 p1 t2 n3 dual4 meet5 join6 x7 (0 : Int))
  (k t2 n3 meet5 join6)
def zz19_a5 (t2 : Y7) (n3 : Int) (meet5 join6 : Y6) : Z7 :=
  some ((n3, ([meet5, join6], ())), (()))
def zz19_s (L5 : Y2 → Y7 → Int → Y2 → Y6 → Y6 → Int → Z7) (p_0 : Y2) : Z7 :=
  (zz12 big p_0).bind fun rq1 =>
  L5 p_0 ((0 : Int), (([] : (List Y6)), ())) (p_0.1.length : Int) rq1.1 ((2 : Int), (([] : Y4), ())) ((2 : Int), (([] : Y4), ())) (0 : Int)
def zz19_l8 (N : Nat) (k : Y2 → Y7 → Int → Y2 → Y6 → Y6 → Int → Z7) : Nat → Y2 → Y7 → Int → Y2 → Y6 → Y6 → Int → Int → Z7
  | 0, _, _, _, _, _, _, _, _ => none
  | m + 1, p1, t2, n3, dual4, meet5, join6, x7, y8 => zz19_b8 (zz19_l8 N k m) k p1 t2 n3 dual4 meet5 join6 x7 y8
def zz19_F8 (N : Nat) (rec : Y2 → Y7 → Int → Y2 → Y6 → Y6 → Int → Z7) (k : Y7 → Int → Y6 → Y6 → Z7) (p1 : Y2) (t2 : Y7) (n3 : Int) (dual4 : Y2) (meet5 join6 : Y6) (x7 y8 : Int) : Z7 := zz19_l8 N (zz19_a8 rec) N p1 t2 n3 dual4 meet5 join6 x7 y8
def zz19_l5 (N : Nat) (k : Y7 → Int → Y6 → Y6 → Z7) : Nat → Y2 → Y7 → Int → Y2 → Y6 → Y6 → Int → Z7
  | 0, _, _, _, _, _, _, _ => none
  | m + 1, p1, t2, n3, dual4, meet5, join6, x7 => zz19_b5 (zz19_F8 N (zz19_l5 N k m) k) k p1 t2 n3 dual4 meet5 join6 x7
def zz19_F5 (N : Nat) (p1 : Y2) (t2 : Y7) (n3 : Int) (dual4 : Y2) (meet5 join6 : Y6) (x7 : Int) : Z7 := zz19_l5 N (zz19_a5) N p1 t2 n3 dual4 meet5 join6 x7
def zz19 (N : Nat) (p_0 : Y2) : Z7 := zz19_s (zz19_F5 N) p_0
def S_zz19 : Sig := { a := (.pair (.pair (.sl (.sl I)) .unit) .unit), md := [0], mf := [], m := .unit, r := (.pair I (.pair (.sl (.pair I (.pair (.sl I) .unit))) .unit)), rf := .i, f := fun x => zz19 big x.1 }
def A_zz19 : Cfg := mkCfg tab [(46, S_zz12), (47, S_zz13)] [(10, [.drop, .as (.ptr (.pair (.sl (.sl I)) .unit)) (.o .i), .as (.ptr (.pair I (.pair (.sl (.pair I (.pair (.sl I) .unit))) .unit))) (.o (.p .i (.p (.o (.p .i (.p (.o .i) .i))) .i))), .as I .i, .as (.ptr (.pair (.sl (.sl I)) .unit)) (.o (.p (.o (.o .i)) .i)), .as (.ptr (.pair I (.pair (.sl I) .unit))) (.o (.p .i (.p (.o .i) .i))), .as (.ptr (.pair I (.pair (.sl I) .unit))) (.o (.p .i (.p (.o .i) .i))), .as I .i]), (16, [.drop, .as (.ptr (.pair (.sl (.sl I)) .unit)) (.o .i), .as (.ptr (.pair I (.pair (.sl (.pair I (.pair (.sl I) .unit))) .unit))) (.o (.p .i (.p (.o (.p .i (.p (.o .i) .i))) .i))), .as I .i, .as (.ptr (.pair (.sl (.sl I)) .unit)) (.o (.p (.o (.o .i)) .i)), .as (.ptr (.pair I (.pair (.sl I) .unit))) (.o (.p .i (.p (.o .i) .i))), .as (.ptr (.pair I (.pair (.sl I) .unit))) (.o (.p .i (.p (.o .i) .i))), .as I .i, .as I .i]), (25, [.drop, .drop, .as (.ptr (.pair I (.pair (.sl (.pair I (.pair (.sl I) .unit))) .unit))) (.o (.p .i (.p (.o (.p .i (.p (.o .i) .i))) .i))), .as I .i, .drop, .as (.ptr (.pair I (.pair (.sl I) .unit))) (.o (.p .i (.p (.o .i) .i))), .as (.ptr (.pair I (.pair (.sl I) .unit))) (.o (.p .i (.p (.o .i) .i)))]), (13, [.drop, .as (.ptr (.pair (.sl (.sl I)) .unit)) (.o .i), .as (.ptr (.pair I (.pair (.sl (.pair I (.pair (.sl I) .unit))) .unit))) (.o (.p .i (.p (.o (.p .i (.p (.o .i) .i))) .i))), .as I .i, .as (.ptr (.pair (.sl (.sl I)) .unit)) (.o (.p (.o (.o .i)) .i)), .as (.ptr (.pair I (.pair (.sl I) .unit))) (.o (.p .i (.p (.o .i) .i))), .as (.ptr (.pair I (.pair (.sl I) .unit))) (.o (.p .i (.p (.o .i) .i))), .as I .i])]
noncomputable def zz19_R5 (N n : Nat) (K : Ex → St → Z7) (p1 : Y2) (t2 : Y7) (n3 : Int) (dual4 : Y2) (meet5 join6 : Y6) (x7 : Int) : Z7 := iter ((A_zz19).shape 10) (run (A_zz19) N (codeAt Tryz.f51 [1, 1, 1, 1, 0, 1, 0, 0])) n ([.u, .val (.ptr (.pair (.sl (.sl I)) .unit)) (.o .i) p1, .val (.ptr (.pair I (.pair (.sl (.pair I (.pair (.sl I) .unit))) .unit))) (.o (.p .i (.p (.o (.p .i (.p (.o .i) .i))) .i))) t2, .val I .i n3, .val (.ptr (.pair (.sl (.sl I)) .unit)) (.o (.p (.o (.o .i)) .i)) dual4, .val (.ptr (.pair I (.pair (.sl I) .unit))) (.o (.p .i (.p (.o .i) .i))) meet5, .val (.ptr (.pair I (.pair (.sl I) .unit))) (.o (.p .i (.p (.o .i) .i))) join6, .val I .i x7] ++ List.replicate 43 .u) K
noncomputable def zz19_R8 (N n : Nat) (K : Ex → St → Z7) (p1 : Y2) (t2 : Y7) (n3 : Int) (dual4 : Y2) (meet5 join6 : Y6) (x7 y8 : Int) : Z7 := iter ((A_zz19).shape 16) (run (A_zz19) N (codeAt Tryz.f51 [1, 1, 1, 1, 0, 1, 0, 0, 1, 0, 0, 1, 0, 0])) n ([.u, .val (.ptr (.pair (.sl (.sl I)) .unit)) (.o .i) p1, .val (.ptr (.pair I (.pair (.sl (.pair I (.pair (.sl I) .unit))) .unit))) (.o (.p .i (.p (.o (.p .i (.p (.o .i) .i))) .i))) t2, .val I .i n3, .val (.ptr (.pair (.sl (.sl I)) .unit)) (.o (.p (.o (.o .i)) .i)) dual4, .val (.ptr (.pair I (.pair (.sl I) .unit))) (.o (.p .i (.p (.o .i) .i))) meet5, .val (.ptr (.pair I (.pair (.sl I) .unit))) (.o (.p .i (.p (.o .i) .i))) join6, .val I .i x7, .val I .i y8] ++ List.replicate 42 .u) K
noncomputable abbrev zz19_z : Ex → St → Z7 := finish (A_zz19) S_zz19 Tryz.f51.results.toList
noncomputable abbrev zz19_X5 (kX : St → Z7) : Y7 → Int → Y6 → Y6 → Z7 := fun (t2 : Y7) (n3 : Int) (meet5 join6 : Y6) => kX ([.u, .u, .val (.ptr (.pair I (.pair (.sl (.pair I (.pair (.sl I) .unit))) .unit))) (.o (.p .i (.p (.o (.p .i (.p (.o .i) .i))) .i))) t2, .val I .i n3, .u, .val (.ptr (.pair I (.pair (.sl I) .unit))) (.o (.p .i (.p (.o .i) .i))) meet5, .val (.ptr (.pair I (.pair (.sl I) .unit))) (.o (.p .i (.p (.o .i) .i))) join6] ++ List.replicate 44 .u)
noncomputable abbrev zz19_E5 (kX : St → Z7) (kO : Nat → St → Z7) : Ex → St → Z7 := exK zz19_z 0 ((A_zz19).shape 25) kX kO
noncomputable abbrev zz19_X8 (kX : St → Z7) : Y2 → Y7 → Int → Y2 → Y6 → Y6 → Int → Z7 := fun (p1 : Y2) (t2 : Y7) (n3 : Int) (dual4 : Y2) (meet5 join6 : Y6) (x7 : Int) => kX ([.u, .val (.ptr (.pair (.sl (.sl I)) .unit)) (.o .i) p1, .val (.ptr (.pair I (.pair (.sl (.pair I (.pair (.sl I) .unit))) .unit))) (.o (.p .i (.p (.o (.p .i (.p (.o .i) .i))) .i))) t2, .val I .i n3, .val (.ptr (.pair (.sl (.sl I)) .unit)) (.o (.p (.o (.o .i)) .i)) dual4, .val (.ptr (.pair I (.pair (.sl I) .unit))) (.o (.p .i (.p (.o .i) .i))) meet5, .val (.ptr (.pair I (.pair (.sl I) .unit))) (.o (.p .i (.p (.o .i) .i))) join6, .val I .i x7] ++ List.replicate 43 .u)
noncomputable abbrev zz19_E8 (kX : St → Z7) (kO : Nat → St → Z7) : Ex → St → Z7 := exK zz19_z 2 ((A_zz19).shape 13) kX kO
theorem zz19_step8 (N m : Nat) (kX : St → Z7) (kO : Nat → St → Z7) (p1 : Y2) (t2 : Y7) (n3 : Int) (dual4 : Y2) (meet5 join6 : Y6) (x7 y8 : Int) : zz19_R8 N (m + 1) (zz19_E8 kX kO) p1 t2 n3 dual4 meet5 join6 x7 y8 = zz19_b8 (zz19_R8 N m (zz19_E8 kX kO)) (zz19_X8 kX) p1 t2 n3 dual4 meet5 join6 x7 y8 := by kernel_rfl
theorem zz19_iter8 (N : Nat) (kX : St → Z7) (kO : Nat → St → Z7) : ∀ (n : Nat) (p1 : Y2) (t2 : Y7) (n3 : Int) (dual4 : Y2) (meet5 join6 : Y6) (x7 y8 : Int), zz19_R8 N n (zz19_E8 kX kO) p1 t2 n3 dual4 meet5 join6 x7 y8 = zz19_l8 N (zz19_X8 kX) n p1 t2 n3 dual4 meet5 join6 x7 y8
  | 0, _, _, _, _, _, _, _, _ => rfl
  | m + 1, p1, t2, n3, dual4, meet5, join6, x7, y8 => by
    have hrec : zz19_R8 N m (zz19_E8 kX kO) = (zz19_l8 N (zz19_X8 kX) m) := (funext fun p1 => (funext fun t2 => (funext fun n3 => (funext fun dual4 => (funext fun meet5 => (funext fun join6 => (funext fun x7 => (funext fun y8 => zz19_iter8 N kX kO m p1 t2 n3 dual4 meet5 join6 x7 y8))))))))
    refine (zz19_step8 N m kX kO p1 t2 n3 dual4 meet5 join6 x7 y8).trans ?_
    rw [hrec]
    rfl
noncomputable abbrev zz19_K8 (N m : Nat) (kX : St → Z7) (kO : Nat → St → Z7) : Ex → St → Z7 := (blockK 2 (blockK 1 (seqK ((A_zz19).shape 13) (run (A_zz19) N (codeAt Tryz.f51 [1, 1, 1, 1, 0, 1, 0, 0, 1, 1])) (iterK ((A_zz19).shape 10) (run (A_zz19) N (codeAt Tryz.f51 [1, 1, 1, 1, 0, 1, 0, 0])) m (zz19_E5 kX kO)))))
noncomputable abbrev zz19_k8 (N m : Nat) (kX : St → Z7) (kO : Nat → St → Z7) : St → Z7 := fun st' => run (A_zz19) N (codeAt Tryz.f51 [1, 1, 1, 1, 0, 1, 0, 0, 1, 1]) st' (iterK ((A_zz19).shape 10) (run (A_zz19) N (codeAt Tryz.f51 [1, 1, 1, 1, 0, 1, 0, 0])) m (zz19_E5 kX kO))
theorem zz19_after8 (N m : Nat) (kX : St → Z7) (kO : Nat → St → Z7) (p1 : Y2) (t2 : Y7) (n3 : Int) (dual4 : Y2) (meet5 join6 : Y6) (x7 : Int) : zz19_X8 (zz19_k8 N m kX kO) p1 t2 n3 dual4 meet5 join6 x7 = zz19_a8 (zz19_R5 N m (zz19_E5 kX kO)) p1 t2 n3 dual4 meet5 join6 x7 := by kernel_rfl
theorem zz19_in8 (N m : Nat) (kX : St → Z7) (kO : Nat → St → Z7) (recF : Y2 → Y7 → Int → Y2 → Y6 → Y6 → Int → Z7) (hrec : zz19_R5 N m (zz19_E5 kX kO) = recF) (p1 : Y2) (t2 : Y7) (n3 : Int) (dual4 : Y2) (meet5 join6 : Y6) (x7 y8 : Int) : zz19_R8 N N (zz19_K8 N m kX kO) p1 t2 n3 dual4 meet5 join6 x7 y8 = zz19_F8 N recF (zz19_X5 kX) p1 t2 n3 dual4 meet5 join6 x7 y8 :=
  have h : zz19_X8 (zz19_k8 N m kX kO) = (zz19_a8 recF) := (funext fun p1 => (funext fun t2 => (funext fun n3 => (funext fun dual4 => (funext fun meet5 => (funext fun join6 => (funext fun x7 => (zz19_after8 N m kX kO p1 t2 n3 dual4 meet5 join6 x7).trans (by rw [hrec]))))))))
  ((iter_ex (fun st => by kernel_rfl) (fun st => by kernel_rfl)).trans (zz19_iter8 N (zz19_k8 N m kX kO) (fun j st => (zz19_K8 N m kX kO) (.exit j) st) N p1 t2 n3 dual4 meet5 join6 x7 y8)).trans (congrArg (fun k => zz19_l8 N k N p1 t2 n3 dual4 meet5 join6 x7 y8) h)
theorem zz19_step5 (N m : Nat) (kX : St → Z7) (kO : Nat → St → Z7) (p1 : Y2) (t2 : Y7) (n3 : Int) (dual4 : Y2) (meet5 join6 : Y6) (x7 : Int) : zz19_R5 N (m + 1) (zz19_E5 kX kO) p1 t2 n3 dual4 meet5 join6 x7 = zz19_b5 (zz19_R8 N N (zz19_K8 N m kX kO)) (zz19_X5 kX) p1 t2 n3 dual4 meet5 join6 x7 := by kernel_rfl
theorem zz19_iter5 (N : Nat) (kX : St → Z7) (kO : Nat → St → Z7) : ∀ (n : Nat) (p1 : Y2) (t2 : Y7) (n3 : Int) (dual4 : Y2) (meet5 join6 : Y6) (x7 : Int), zz19_R5 N n (zz19_E5 kX kO) p1 t2 n3 dual4 meet5 join6 x7 = zz19_l5 N (zz19_X5 kX) n p1 t2 n3 dual4 meet5 join6 x7
  | 0, _, _, _, _, _, _, _ => rfl
  | m + 1, p1, t2, n3, dual4, meet5, join6, x7 => by
    have hrec : zz19_R5 N m (zz19_E5 kX kO) = (zz19_l5 N (zz19_X5 kX) m) := (funext fun p1 => (funext fun t2 => (funext fun n3 => (funext fun dual4 => (funext fun meet5 => (funext fun join6 => (funext fun x7 => zz19_iter5 N kX kO m p1 t2 n3 dual4 meet5 join6 x7)))))))
    refine (zz19_step5 N m kX kO p1 t2 n3 dual4 meet5 join6 x7).trans ?_
    rw [(funext fun p1 => (funext fun t2 => (funext fun n3 => (funext fun dual4 => (funext fun meet5 => (funext fun join6 => (funext fun x7 => (funext fun y8 => zz19_in8 N m kX kO (zz19_l5 N (zz19_X5 kX) m) hrec p1 t2 n3 dual4 meet5 join6 x7 y8))))))))]
    rfl
noncomputable abbrev zz19_K5 (N : Nat) : Ex → St → Z7 := (blockK 0 (seqK ((A_zz19).shape 25) (run (A_zz19) N (codeAt Tryz.f51 [1, 1, 1, 1, 1])) zz19_z))
noncomputable abbrev zz19_k5 (N : Nat) : St → Z7 := fun st' => run (A_zz19) N (codeAt Tryz.f51 [1, 1, 1, 1, 1]) st' zz19_z
theorem zz19_after5 (N : Nat) (t2 : Y7) (n3 : Int) (meet5 join6 : Y6) : zz19_X5 (zz19_k5 N) t2 n3 meet5 join6 = zz19_a5 t2 n3 meet5 join6 := by kernel_rfl
theorem zz19_in5 (N : Nat) (p1 : Y2) (t2 : Y7) (n3 : Int) (dual4 : Y2) (meet5 join6 : Y6) (x7 : Int) : zz19_R5 N N (zz19_K5 N) p1 t2 n3 dual4 meet5 join6 x7 = zz19_F5 N p1 t2 n3 dual4 meet5 join6 x7 :=
  have h : zz19_X5 (zz19_k5 N) = (zz19_a5) := (funext fun t2 => (funext fun n3 => (funext fun meet5 => (funext fun join6 => zz19_after5 N t2 n3 meet5 join6))))
  ((iter_ex (fun st => by kernel_rfl) (fun st => by kernel_rfl)).trans (zz19_iter5 N (zz19_k5 N) (fun j st => (zz19_K5 N) (.exit j) st) N p1 t2 n3 dual4 meet5 join6 x7)).trans (congrArg (fun k => zz19_l5 N k N p1 t2 n3 dual4 meet5 join6 x7) h)
theorem run0_zz19 (N : Nat) (x : (S_zz19).a.den) : runF (A_zz19) N Tryz.f51 S_zz19 x = (zz19_s (zz19_R5 N N (zz19_K5 N)) x.1) := by kernel_rfl
theorem run_zz19 (N : Nat) (x : (S_zz19).a.den) : runF (A_zz19) N Tryz.f51 S_zz19 x = zz19 N x.1 := by
  refine (run0_zz19 N x).trans ?_
  rw [(funext fun p1 => (funext fun t2 => (funext fun n3 => (funext fun dual4 => (funext fun meet5 => (funext fun join6 => (funext fun x7 => zz19_in5 N p1 t2 n3 dual4 meet5 join6 x7)))))))]
  rfl
theorem fn_zz19 : FnOk Tryz.prog 51 := ⟨_, Tryz.func51, by kernel_rfl, by kernel_rfl⟩
theorem good_zz19 : Gx.Good Tryz.prog 51 S_zz19 := good_of_run Tryz.func51 (of_decide_eq_true (by kernel_rfl)) fun x r h => ⟨A_zz19, big, mkCfg_ok tabOk, mkCfg_sigs (show SigsOk Tryz.prog [(46, S_zz12), (47, S_zz13)] from ⟨⟨fn_zz12, good_zz12⟩, ⟨fn_zz13, good_zz13⟩, trivial⟩), (run_zz19 big x).trans h⟩

/-! zz20 -/
def zz20_b2 (rec : Int → Y2 → Int → Z2) (k : Int → Z2) (j1 : Int) (p2 : Y2) (x5 : Int) : Z2 :=
  (zz17 big p2 x5 j1).bind fun rq1 =>
  cond (!rq1.1)
  (rec j1 p2 (IntKind.i64.wrap (x5 + (1 : Int))))
  (k x5)
def zz20_a2 (x5 : Int) : Z2 :=
  some (x5, (()))
def zz20_s (L2 : Int → Y2 → Int → Z2) (p_0 : Y2) (j_1 : Int) : Z2 :=
  L2 j_1 p_0 (0 : Int)
def zz20_l2 (N : Nat) (k : Int → Z2) : Nat → Int → Y2 → Int → Z2
  | 0, _, _, _ => none
  | m + 1, j1, p2, x5 => zz20_b2 (zz20_l2 N k m) k j1 p2 x5
def zz20_F2 (N : Nat) (j1 : Int) (p2 : Y2) (x5 : Int) : Z2 := zz20_l2 N (zz20_a2) N j1 p2 x5
def zz20 (N : Nat) (p_0 : Y2) (j_1 : Int) : Z2 := zz20_s (zz20_F2 N) p_0 j_1
def S_zz20 : Sig := { a := (.pair (.pair (.sl (.sl I)) .unit) (.pair I .unit)), md := [0, 0], mf := [], m := .unit, r := I, rf := .i, f := fun x => zz20 big x.1 x.2.1 }
def A_zz20 : Cfg := mkCfg tab [(48, S_zz17)] [(4, [.drop, .as I .i, .as (.ptr (.pair (.sl (.sl I)) .unit)) (.o .i), .drop, .drop, .as I .i]), (9, [.drop, .drop, .drop, .drop, .drop, .as I .i])]
noncomputable def zz20_R2 (N n : Nat) (K : Ex → St → Z2) (j1 : Int) (p2 : Y2) (x5 : Int) : Z2 := iter ((A_zz20).shape 4) (run (A_zz20) N (codeAt Tryz.f52 [1, 1, 0, 0, 0])) n ([.u, .val I .i j1, .val (.ptr (.pair (.sl (.sl I)) .unit)) (.o .i) p2, .u, .u, .val I .i x5] ++ List.replicate 8 .u) K
noncomputable abbrev zz20_z : Ex → St → Z2 := finish (A_zz20) S_zz20 Tryz.f52.results.toList
noncomputable abbrev zz20_X2 (kX : St → Z2) : Int → Z2 := fun (x5 : Int) => kX ([.u, .u, .u, .u, .u, .val I .i x5] ++ List.replicate 8 .u)
noncomputable abbrev zz20_E2 (kX : St → Z2) (kO : Nat → St → Z2) : Ex → St → Z2 := exK zz20_z 0 ((A_zz20).shape 9) kX kO
theorem zz20_step2 (N m : Nat) (kX : St → Z2) (kO : Nat → St → Z2) (j1 : Int) (p2 : Y2) (x5 : Int) : zz20_R2 N (m + 1) (zz20_E2 kX kO) j1 p2 x5 = zz20_b2 (zz20_R2 N m (zz20_E2 kX kO)) (zz20_X2 kX) j1 p2 x5 := by kernel_rfl
theorem zz20_iter2 (N : Nat) (kX : St → Z2) (kO : Nat → St → Z2) : ∀ (n : Nat) (j1 : Int) (p2 : Y2) (x5 : Int), zz20_R2 N n (zz20_E2 kX kO) j1 p2 x5 = zz20_l2 N (zz20_X2 kX) n j1 p2 x5
  | 0, _, _, _ => rfl
  | m + 1, j1, p2, x5 => by
    have hrec : zz20_R2 N m (zz20_E2 kX kO) = (zz20_l2 N (zz20_X2 kX) m) := (funext fun j1 => (funext fun p2 => (funext fun x5 => zz20_iter2 N kX kO m j1 p2 x5)))
    refine (zz20_step2 N m kX kO j1 p2 x5).trans ?_
    rw [hrec]
    rfl
noncomputable abbrev zz20_K2 (N : Nat) : Ex → St → Z2 := (blockK 0 (seqK ((A_zz20).shape 9) (run (A_zz20) N (codeAt Tryz.f52 [1, 1, 1])) zz20_z))
noncomputable abbrev zz20_k2 (N : Nat) : St → Z2 := fun st' => run (A_zz20) N (codeAt Tryz.f52 [1, 1, 1]) st' zz20_z
theorem zz20_after2 (N : Nat) (x5 : Int) : zz20_X2 (zz20_k2 N) x5 = zz20_a2 x5 := by kernel_rfl
theorem zz20_in2 (N : Nat) (j1 : Int) (p2 : Y2) (x5 : Int) : zz20_R2 N N (zz20_K2 N) j1 p2 x5 = zz20_F2 N j1 p2 x5 :=
  have h : zz20_X2 (zz20_k2 N) = (zz20_a2) := (funext fun x5 => zz20_after2 N x5)
  ((iter_ex (fun st => by kernel_rfl) (fun st => by kernel_rfl)).trans (zz20_iter2 N (zz20_k2 N) (fun j st => (zz20_K2 N) (.exit j) st) N j1 p2 x5)).trans (congrArg (fun k => zz20_l2 N k N j1 p2 x5) h)
theorem run0_zz20 (N : Nat) (x : (S_zz20).a.den) : runF (A_zz20) N Tryz.f52 S_zz20 x = (zz20_s (zz20_R2 N N (zz20_K2 N)) x.1 x.2.1) := by kernel_rfl
theorem run_zz20 (N : Nat) (x : (S_zz20).a.den) : runF (A_zz20) N Tryz.f52 S_zz20 x = zz20 N x.1 x.2.1 := by
  refine (run0_zz20 N x).trans ?_
  rw [(funext fun j1 => (funext fun p2 => (funext fun x5 => zz20_in2 N j1 p2 x5)))]
  rfl
theorem fn_zz20 : FnOk Tryz.prog 52 := ⟨_, Tryz.func52, by kernel_rfl, by kernel_rfl⟩
theorem good_zz20 : Gx.Good Tryz.prog 52 S_zz20 := good_of_run Tryz.func52 (of_decide_eq_true (by kernel_rfl)) fun x r h => ⟨A_zz20, big, mkCfg_ok tabOk, mkCfg_sigs (show SigsOk Tryz.prog [(48, S_zz17)] from ⟨⟨fn_zz17, good_zz17⟩, trivial⟩), (run_zz20 big x).trans h⟩

/-! zz21 -/
def zz21_b3 (rec : Int → Y4 → Int → Z1) (k : Y4 → Z1) (n0 : Int) (out3 : Y4) (x4 : Int) : Z1 :=
  cond (decide (x4 < n0))
  ((appI out3 [x4]).bind fun xq1 =>
  rec n0 xq1 (IntKind.i64.wrap (x4 + (1 : Int))))
  (k out3)
def zz21_a3 (out3 : Y4) : Z1 :=
  some (out3, (()))
def zz21_s (L3 : Int → Y4 → Int → Z1) (n_0 : Int) : Z1 :=
  L3 n_0 [] (0 : Int)
def zz21_l3 (N : Nat) (k : Y4 → Z1) : Nat → Int → Y4 → Int → Z1
  | 0, _, _, _ => none
  | m + 1, n0, out3, x4 => zz21_b3 (zz21_l3 N k m) k n0 out3 x4
def zz21_F3 (N : Nat) (n0 : Int) (out3 : Y4) (x4 : Int) : Z1 := zz21_l3 N (zz21_a3) N n0 out3 x4
def zz21 (N : Nat) (n_0 : Int) : Z1 := zz21_s (zz21_F3 N) n_0
def S_zz21 : Sig := { a := (.pair I .unit), md := [0], mf := [], m := .unit, r := (.sl I), rf := (.o .i), f := fun x => zz21 big x.1 }
def A_zz21 : Cfg := mkCfg tab [] [(6, [.as I .i, .drop, .drop, .as (.sl I) (.o .i), .as I .i]), (13, [.drop, .drop, .drop, .as (.sl I) (.o .i)])]
noncomputable def zz21_R3 (N n : Nat) (K : Ex → St → Z1) (n0 : Int) (out3 : Y4) (x4 : Int) : Z1 := iter ((A_zz21).shape 6) (run (A_zz21) N (codeAt Tryz.f73 [1, 1, 0, 1, 0, 0])) n ([.val I .i n0, .u, .u, .val (.sl I) (.o .i) out3, .val I .i x4] ++ List.replicate 11 .u) K
noncomputable abbrev zz21_z : Ex → St → Z1 := finish (A_zz21) S_zz21 Tryz.f73.results.toList
noncomputable abbrev zz21_X3 (kX : St → Z1) : Y4 → Z1 := fun (out3 : Y4) => kX ([.u, .u, .u, .val (.sl I) (.o .i) out3] ++ List.replicate 12 .u)
noncomputable abbrev zz21_E3 (kX : St → Z1) (kO : Nat → St → Z1) : Ex → St → Z1 := exK zz21_z 0 ((A_zz21).shape 13) kX kO
theorem zz21_step3 (N m : Nat) (kX : St → Z1) (kO : Nat → St → Z1) (n0 : Int) (out3 : Y4) (x4 : Int) : zz21_R3 N (m + 1) (zz21_E3 kX kO) n0 out3 x4 = zz21_b3 (zz21_R3 N m (zz21_E3 kX kO)) (zz21_X3 kX) n0 out3 x4 := by kernel_rfl
theorem zz21_iter3 (N : Nat) (kX : St → Z1) (kO : Nat → St → Z1) : ∀ (n : Nat) (n0 : Int) (out3 : Y4) (x4 : Int), zz21_R3 N n (zz21_E3 kX kO) n0 out3 x4 = zz21_l3 N (zz21_X3 kX) n n0 out3 x4
  | 0, _, _, _ => rfl
  | m + 1, n0, out3, x4 => by
    have hrec : zz21_R3 N m (zz21_E3 kX kO) = (zz21_l3 N (zz21_X3 kX) m) := (funext fun n0 => (funext fun out3 => (funext fun x4 => zz21_iter3 N kX kO m n0 out3 x4)))
    refine (zz21_step3 N m kX kO n0 out3 x4).trans ?_
    rw [hrec]
    rfl
noncomputable abbrev zz21_K3 (N : Nat) : Ex → St → Z1 := (blockK 0 (seqK ((A_zz21).shape 13) (run (A_zz21) N (codeAt Tryz.f73 [1, 1, 1])) zz21_z))
noncomputable abbrev zz21_k3 (N : Nat) : St → Z1 := fun st' => run (A_zz21) N (codeAt Tryz.f73 [1, 1, 1]) st' zz21_z
theorem zz21_after3 (N : Nat) (out3 : Y4) : zz21_X3 (zz21_k3 N) out3 = zz21_a3 out3 := by kernel_rfl
theorem zz21_in3 (N : Nat) (n0 : Int) (out3 : Y4) (x4 : Int) : zz21_R3 N N (zz21_K3 N) n0 out3 x4 = zz21_F3 N n0 out3 x4 :=
  have h : zz21_X3 (zz21_k3 N) = (zz21_a3) := (funext fun out3 => zz21_after3 N out3)
  ((iter_ex (fun st => by kernel_rfl) (fun st => by kernel_rfl)).trans (zz21_iter3 N (zz21_k3 N) (fun j st => (zz21_K3 N) (.exit j) st) N n0 out3 x4)).trans (congrArg (fun k => zz21_l3 N k N n0 out3 x4) h)
theorem run0_zz21 (N : Nat) (x : (S_zz21).a.den) : runF (A_zz21) N Tryz.f73 S_zz21 x = (zz21_s (zz21_R3 N N (zz21_K3 N)) x.1) := by kernel_rfl
theorem run_zz21 (N : Nat) (x : (S_zz21).a.den) : runF (A_zz21) N Tryz.f73 S_zz21 x = zz21 N x.1 := by
  refine (run0_zz21 N x).trans ?_
  rw [(funext fun n0 => (funext fun out3 => (funext fun x4 => zz21_in3 N n0 out3 x4)))]
  rfl
theorem fn_zz21 : FnOk Tryz.prog 73 := ⟨_, Tryz.func73, by kernel_rfl, by kernel_rfl⟩
theorem good_zz21 : Gx.Good Tryz.prog 73 S_zz21 := good_of_run Tryz.func73 (of_decide_eq_true (by kernel_rfl)) fun x r h => ⟨A_zz21, big, mkCfg_ok tabOk, mkCfg_sigs (show SigsOk Tryz.prog [] from trivial), (run_zz21 big x).trans h⟩

/-! zz22 -/
def zz22_s (a_0 b_1 : Int) : Z2 :=
  cond (decide (a_0 < b_1))
  (some (a_0, (())))
  (some (b_1, (())))
def zz22 (a_0 b_1 : Int) : Z2 := zz22_s a_0 b_1
def S_zz22 : Sig := { a := (.pair I (.pair I .unit)), md := [0, 0], mf := [], m := .unit, r := I, rf := .i, f := fun x => zz22 x.1 x.2.1 }
def A_zz22 : Cfg := mkCfg tab [] []
theorem run_zz22 (N : Nat) (x : (S_zz22).a.den) : runF (A_zz22) N Tryz.f96 S_zz22 x = zz22 x.1 x.2.1 := by kernel_rfl
theorem fn_zz22 : FnOk Tryz.prog 96 := ⟨_, Tryz.func96, by kernel_rfl, by kernel_rfl⟩
theorem good_zz22 : Gx.Good Tryz.prog 96 S_zz22 := good_of_run Tryz.func96 (of_decide_eq_true (by kernel_rfl)) fun x r h => ⟨A_zz22, big, mkCfg_ok tabOk, mkCfg_sigs (show SigsOk Tryz.prog [] from trivial), (run_zz22 big x).trans h⟩

/-! zz23 -/
def zz23_s (a_0 b_1 : Int) : Z2 :=
  cond (decide (b_1 < a_0))
  (some (a_0, (())))
  (some (b_1, (())))
def zz23 (a_0 b_1 : Int) : Z2 := zz23_s a_0 b_1
def S_zz23 : Sig := { a := (.pair I (.pair I .unit)), md := [0, 0], mf := [], m := .unit, r := I, rf := .i, f := fun x => zz23 x.1 x.2.1 }
def A_zz23 : Cfg := mkCfg tab [] []
theorem run_zz23 (N : Nat) (x : (S_zz23).a.den) : runF (A_zz23) N Tryz.f97 S_zz23 x = zz23 x.1 x.2.1 := by kernel_rfl
theorem fn_zz23 : FnOk Tryz.prog 97 := ⟨_, Tryz.func97, by kernel_rfl, by kernel_rfl⟩
theorem good_zz23 : Gx.Good Tryz.prog 97 S_zz23 := good_of_run Tryz.func97 (of_decide_eq_true (by kernel_rfl)) fun x r h => ⟨A_zz23, big, mkCfg_ok tabOk, mkCfg_sigs (show SigsOk Tryz.prog [] from trivial), (run_zz23 big x).trans h⟩

/-! zz24 -/
def zz24_b4 (rec : Y4 → Int → Int → Y4 → Int → Z1) (k : Y4 → Z1) (p0 : Y4) (low7 high8 : Int) (out9 : Y4) (z10 : Int) : Z1 :=
  cond (decide (z10 < (p0.length : Int)))
  ((atI p0 z10).bind fun xq7 =>
  cond (decide (xq7 = high8))
  ((appI out9 [low7]).bind fun xq8 =>
  rec p0 low7 high8 xq8 (IntKind.i64.wrap (z10 + (1 : Int))))
  ((atI p0 z10).bind fun xq9 =>
  (appI out9 [xq9]).bind fun xq10 =>
  rec p0 low7 high8 xq10 (IntKind.i64.wrap (z10 + (1 : Int)))))
  (k out9)
def zz24_a4 (out9 : Y4) : Z1 :=
  some (out9, (()))
def zz24_s (L4 : Y4 → Int → Int → Y4 → Int → Z1) (p_0 : Y4) (x_1 y_2 : Int) : Z1 :=
  (atI p_0 x_1).bind fun xq1 =>
  (atI p_0 y_2).bind fun xq2 =>
  (zz22 xq1 xq2).bind fun rq3 =>
  (atI p_0 x_1).bind fun xq4 =>
  (atI p_0 y_2).bind fun xq5 =>
  (zz23 xq4 xq5).bind fun rq6 =>
  L4 p_0 rq3.1 rq6.1 [] (0 : Int)
def zz24_l4 (N : Nat) (k : Y4 → Z1) : Nat → Y4 → Int → Int → Y4 → Int → Z1
  | 0, _, _, _, _, _ => none
  | m + 1, p0, low7, high8, out9, z10 => zz24_b4 (zz24_l4 N k m) k p0 low7 high8 out9 z10
def zz24_F4 (N : Nat) (p0 : Y4) (low7 high8 : Int) (out9 : Y4) (z10 : Int) : Z1 := zz24_l4 N (zz24_a4) N p0 low7 high8 out9 z10
def zz24 (N : Nat) (p_0 : Y4) (x_1 y_2 : Int) : Z1 := zz24_s (zz24_F4 N) p_0 x_1 y_2
def S_zz24 : Sig := { a := (.pair (.sl I) (.pair I (.pair I .unit))), md := [0, 0, 0], mf := [], m := .unit, r := (.sl I), rf := (.o .i), f := fun x => zz24 big x.1 x.2.1 x.2.2.1 }
def A_zz24 : Cfg := mkCfg tab [(96, S_zz22), (97, S_zz23)] [(8, [.as (.sl I) .i, .drop, .drop, .drop, .drop, .drop, .drop, .as I .i, .as I .i, .as (.sl I) (.o .i), .as I .i]), (19, [.drop, .drop, .drop, .drop, .drop, .drop, .drop, .drop, .drop, .as (.sl I) (.o .i)])]
noncomputable def zz24_R4 (N n : Nat) (K : Ex → St → Z1) (p0 : Y4) (low7 high8 : Int) (out9 : Y4) (z10 : Int) : Z1 := iter ((A_zz24).shape 8) (run (A_zz24) N (codeAt Tryz.f72 [1, 1, 1, 0, 1, 0, 0])) n ([.val (.sl I) .i p0, .u, .u, .u, .u, .u, .u, .val I .i low7, .val I .i high8, .val (.sl I) (.o .i) out9, .val I .i z10] ++ List.replicate 43 .u) K
noncomputable abbrev zz24_z : Ex → St → Z1 := finish (A_zz24) S_zz24 Tryz.f72.results.toList
noncomputable abbrev zz24_X4 (kX : St → Z1) : Y4 → Z1 := fun (out9 : Y4) => kX ([.u, .u, .u, .u, .u, .u, .u, .u, .u, .val (.sl I) (.o .i) out9] ++ List.replicate 44 .u)
noncomputable abbrev zz24_E4 (kX : St → Z1) (kO : Nat → St → Z1) : Ex → St → Z1 := exK zz24_z 0 ((A_zz24).shape 19) kX kO
theorem zz24_step4 (N m : Nat) (kX : St → Z1) (kO : Nat → St → Z1) (p0 : Y4) (low7 high8 : Int) (out9 : Y4) (z10 : Int) : zz24_R4 N (m + 1) (zz24_E4 kX kO) p0 low7 high8 out9 z10 = zz24_b4 (zz24_R4 N m (zz24_E4 kX kO)) (zz24_X4 kX) p0 low7 high8 out9 z10 := by kernel_rfl
theorem zz24_iter4 (N : Nat) (kX : St → Z1) (kO : Nat → St → Z1) : ∀ (n : Nat) (p0 : Y4) (low7 high8 : Int) (out9 : Y4) (z10 : Int), zz24_R4 N n (zz24_E4 kX kO) p0 low7 high8 out9 z10 = zz24_l4 N (zz24_X4 kX) n p0 low7 high8 out9 z10
  | 0, _, _, _, _, _ => rfl
  | m + 1, p0, low7, high8, out9, z10 => by
    have hrec : zz24_R4 N m (zz24_E4 kX kO) = (zz24_l4 N (zz24_X4 kX) m) := (funext fun p0 => (funext fun low7 => (funext fun high8 => (funext fun out9 => (funext fun z10 => zz24_iter4 N kX kO m p0 low7 high8 out9 z10)))))
    refine (zz24_step4 N m kX kO p0 low7 high8 out9 z10).trans ?_
    rw [hrec]
    rfl
noncomputable abbrev zz24_K4 (N : Nat) : Ex → St → Z1 := (blockK 0 (seqK ((A_zz24).shape 19) (run (A_zz24) N (codeAt Tryz.f72 [1, 1, 1, 1])) zz24_z))
noncomputable abbrev zz24_k4 (N : Nat) : St → Z1 := fun st' => run (A_zz24) N (codeAt Tryz.f72 [1, 1, 1, 1]) st' zz24_z
theorem zz24_after4 (N : Nat) (out9 : Y4) : zz24_X4 (zz24_k4 N) out9 = zz24_a4 out9 := by kernel_rfl
theorem zz24_in4 (N : Nat) (p0 : Y4) (low7 high8 : Int) (out9 : Y4) (z10 : Int) : zz24_R4 N N (zz24_K4 N) p0 low7 high8 out9 z10 = zz24_F4 N p0 low7 high8 out9 z10 :=
  have h : zz24_X4 (zz24_k4 N) = (zz24_a4) := (funext fun out9 => zz24_after4 N out9)
  ((iter_ex (fun st => by kernel_rfl) (fun st => by kernel_rfl)).trans (zz24_iter4 N (zz24_k4 N) (fun j st => (zz24_K4 N) (.exit j) st) N p0 low7 high8 out9 z10)).trans (congrArg (fun k => zz24_l4 N k N p0 low7 high8 out9 z10) h)
theorem run0_zz24 (N : Nat) (x : (S_zz24).a.den) : runF (A_zz24) N Tryz.f72 S_zz24 x = (zz24_s (zz24_R4 N N (zz24_K4 N)) x.1 x.2.1 x.2.2.1) := by kernel_rfl
theorem run_zz24 (N : Nat) (x : (S_zz24).a.den) : runF (A_zz24) N Tryz.f72 S_zz24 x = zz24 N x.1 x.2.1 x.2.2.1 := by
  refine (run0_zz24 N x).trans ?_
  rw [(funext fun p0 => (funext fun low7 => (funext fun high8 => (funext fun out9 => (funext fun z10 => zz24_in4 N p0 low7 high8 out9 z10)))))]
  rfl
theorem fn_zz24 : FnOk Tryz.prog 72 := ⟨_, Tryz.func72, by kernel_rfl, by kernel_rfl⟩
theorem good_zz24 : Gx.Good Tryz.prog 72 S_zz24 := good_of_run Tryz.func72 (of_decide_eq_true (by kernel_rfl)) fun x r h => ⟨A_zz24, big, mkCfg_ok tabOk, mkCfg_sigs (show SigsOk Tryz.prog [(96, S_zz22), (97, S_zz23)] from ⟨⟨fn_zz22, good_zz22⟩, ⟨fn_zz23, good_zz23⟩, trivial⟩), (run_zz24 big x).trans h⟩

/-! zz25 -/
def zz25_s (l_0 : Y4) : Z1 :=
  (appI [] l_0).bind fun xq1 =>
  some (xq1, (()))
def zz25 (l_0 : Y4) : Z1 := zz25_s l_0
def S_zz25 : Sig := { a := (.pair (.sl I) .unit), md := [0], mf := [], m := .unit, r := (.sl I), rf := (.o .i), f := fun x => zz25 x.1 }
def A_zz25 : Cfg := mkCfg tab [] []
theorem run_zz25 (N : Nat) (x : (S_zz25).a.den) : runF (A_zz25) N Tryz.f103 S_zz25 x = zz25 x.1 := by kernel_rfl
theorem fn_zz25 : FnOk Tryz.prog 103 := ⟨_, Tryz.func103, by kernel_rfl, by kernel_rfl⟩
theorem good_zz25 : Gx.Good Tryz.prog 103 S_zz25 := good_of_run Tryz.func103 (of_decide_eq_true (by kernel_rfl)) fun x r h => ⟨A_zz25, big, mkCfg_ok tabOk, mkCfg_sigs (show SigsOk Tryz.prog [] from trivial), (run_zz25 big x).trans h⟩

/-! zz26 -/
def zz26_b3 (rec : Int → Int → Y4 → Int → Z1) (k : Y4 → Z1) (n0 at2 : Int) (out7 : Y4) (i8 : Int) : Z1 :=
  cond (decide ((0 : Int) ≤ i8))
  ((remI at2 n0).bind fun xq3 =>
  (atI out7 i8).bind fun _ =>
  (out7[i8.toNat]?).bind fun xq4 =>
  (quoI IntKind.i64 at2 n0).bind fun xq5 =>
  rec n0 xq5 (out7.set i8.toNat xq3) (IntKind.i64.wrap (i8 - (1 : Int))))
  (k out7)
def zz26_a3 (out7 : Y4) : Z1 :=
  some (out7, (()))
def zz26_s (L3 : Int → Int → Y4 → Int → Z1) (n_0 arity_1 at_2 : Int) : Z1 :=
  (mkI (0 : Int) arity_1).bind fun xq1 => (mkI (0 : Int) arity_1).bind fun xq2 => cond (decide (arity_1 ≤ arity_1))
  (L3 n_0 at_2 xq2 (IntKind.i64.wrap (arity_1 - (1 : Int))))
  none
def zz26_l3 (N : Nat) (k : Y4 → Z1) : Nat → Int → Int → Y4 → Int → Z1
  | 0, _, _, _, _ => none
  | m + 1, n0, at2, out7, i8 => zz26_b3 (zz26_l3 N k m) k n0 at2 out7 i8
def zz26_F3 (N : Nat) (n0 at2 : Int) (out7 : Y4) (i8 : Int) : Z1 := zz26_l3 N (zz26_a3) N n0 at2 out7 i8
def zz26 (N : Nat) (n_0 arity_1 at_2 : Int) : Z1 := zz26_s (zz26_F3 N) n_0 arity_1 at_2
def S_zz26 : Sig := { a := (.pair I (.pair I (.pair I .unit))), md := [0, 0, 0], mf := [], m := .unit, r := (.sl I), rf := (.o .i), f := fun x => zz26 big x.1 x.2.1 x.2.2.1 }
def A_zz26 : Cfg := mkCfg tab [] [(6, [.as I .i, .drop, .as I .i, .drop, .drop, .drop, .drop, .as (.sl I) (.o .i), .as I .i]), (15, [.drop, .drop, .drop, .drop, .drop, .drop, .drop, .as (.sl I) (.o .i)])]
noncomputable def zz26_R3 (N n : Nat) (K : Ex → St → Z1) (n0 at2 : Int) (out7 : Y4) (i8 : Int) : Z1 := iter ((A_zz26).shape 6) (run (A_zz26) N (codeAt Tryz.f104 [1, 1, 0, 1, 0, 0])) n ([.val I .i n0, .u, .val I .i at2, .u, .u, .u, .u, .val (.sl I) (.o .i) out7, .val I .i i8] ++ List.replicate 18 .u) K
noncomputable abbrev zz26_z : Ex → St → Z1 := finish (A_zz26) S_zz26 Tryz.f104.results.toList
noncomputable abbrev zz26_X3 (kX : St → Z1) : Y4 → Z1 := fun (out7 : Y4) => kX ([.u, .u, .u, .u, .u, .u, .u, .val (.sl I) (.o .i) out7] ++ List.replicate 19 .u)
noncomputable abbrev zz26_E3 (kX : St → Z1) (kO : Nat → St → Z1) : Ex → St → Z1 := exK zz26_z 0 ((A_zz26).shape 15) kX kO
theorem zz26_step3 (N m : Nat) (kX : St → Z1) (kO : Nat → St → Z1) (n0 at2 : Int) (out7 : Y4) (i8 : Int) : zz26_R3 N (m + 1) (zz26_E3 kX kO) n0 at2 out7 i8 = zz26_b3 (zz26_R3 N m (zz26_E3 kX kO)) (zz26_X3 kX) n0 at2 out7 i8 := by kernel_rfl
theorem zz26_iter3 (N : Nat) (kX : St → Z1) (kO : Nat → St → Z1) : ∀ (n : Nat) (n0 at2 : Int) (out7 : Y4) (i8 : Int), zz26_R3 N n (zz26_E3 kX kO) n0 at2 out7 i8 = zz26_l3 N (zz26_X3 kX) n n0 at2 out7 i8
  | 0, _, _, _, _ => rfl
  | m + 1, n0, at2, out7, i8 => by
    have hrec : zz26_R3 N m (zz26_E3 kX kO) = (zz26_l3 N (zz26_X3 kX) m) := (funext fun n0 => (funext fun at2 => (funext fun out7 => (funext fun i8 => zz26_iter3 N kX kO m n0 at2 out7 i8))))
    refine (zz26_step3 N m kX kO n0 at2 out7 i8).trans ?_
    rw [hrec]
    rfl
noncomputable abbrev zz26_K3 (N : Nat) : Ex → St → Z1 := (blockK 0 (seqK ((A_zz26).shape 15) (run (A_zz26) N (codeAt Tryz.f104 [1, 1, 1])) zz26_z))
noncomputable abbrev zz26_k3 (N : Nat) : St → Z1 := fun st' => run (A_zz26) N (codeAt Tryz.f104 [1, 1, 1]) st' zz26_z
theorem zz26_after3 (N : Nat) (out7 : Y4) : zz26_X3 (zz26_k3 N) out7 = zz26_a3 out7 := by kernel_rfl
theorem zz26_in3 (N : Nat) (n0 at2 : Int) (out7 : Y4) (i8 : Int) : zz26_R3 N N (zz26_K3 N) n0 at2 out7 i8 = zz26_F3 N n0 at2 out7 i8 :=
  have h : zz26_X3 (zz26_k3 N) = (zz26_a3) := (funext fun out7 => zz26_after3 N out7)
  ((iter_ex (fun st => by kernel_rfl) (fun st => by kernel_rfl)).trans (zz26_iter3 N (zz26_k3 N) (fun j st => (zz26_K3 N) (.exit j) st) N n0 at2 out7 i8)).trans (congrArg (fun k => zz26_l3 N k N n0 at2 out7 i8) h)
theorem run0_zz26 (N : Nat) (x : (S_zz26).a.den) : runF (A_zz26) N Tryz.f104 S_zz26 x = (zz26_s (zz26_R3 N N (zz26_K3 N)) x.1 x.2.1 x.2.2.1) := by kernel_rfl
theorem run_zz26 (N : Nat) (x : (S_zz26).a.den) : runF (A_zz26) N Tryz.f104 S_zz26 x = zz26 N x.1 x.2.1 x.2.2.1 := by
  refine (run0_zz26 N x).trans ?_
  rw [(funext fun n0 => (funext fun at2 => (funext fun out7 => (funext fun i8 => zz26_in3 N n0 at2 out7 i8))))]
  rfl
theorem fn_zz26 : FnOk Tryz.prog 104 := ⟨_, Tryz.func104, by kernel_rfl, by kernel_rfl⟩
theorem good_zz26 : Gx.Good Tryz.prog 104 S_zz26 := good_of_run Tryz.func104 (of_decide_eq_true (by kernel_rfl)) fun x r h => ⟨A_zz26, big, mkCfg_ok tabOk, mkCfg_sigs (show SigsOk Tryz.prog [] from trivial), (run_zz26 big x).trans h⟩

/-! zz27 -/
def zz27_b3 (rec : Int → Y4 → Y7 → Int → Int → Z2) (k : Int → Y7 → Int → Z2) (op1 : Int) (args2 : Y4) (a3 : Y7) (at7 i8 : Int) : Z2 :=
  cond (decide (i8 < (args2.length : Int)))
  ((atI args2 i8).bind fun xq1 =>
  rec op1 args2 a3 (IntKind.i64.wrap ((IntKind.i64.wrap (at7 * a3.1)) + xq1)) (IntKind.i64.wrap (i8 + (1 : Int))))
  (k op1 a3 at7)
def zz27_a3 (op1 : Int) (a3 : Y7) (at7 : Int) : Z2 :=
  (atI a3.2.1 op1).bind fun xq2 =>
  (atI xq2.2.1 at7).bind fun xq3 =>
  some (xq3, (()))
def zz27_s (L3 : Int → Y4 → Y7 → Int → Int → Z2) (a_0 : Y7) (op_1 : Int) (args_2 : Y4) : Z2 :=
  L3 op_1 args_2 a_0 (0 : Int) (0 : Int)
def zz27_l3 (N : Nat) (k : Int → Y7 → Int → Z2) : Nat → Int → Y4 → Y7 → Int → Int → Z2
  | 0, _, _, _, _, _ => none
  | m + 1, op1, args2, a3, at7, i8 => zz27_b3 (zz27_l3 N k m) k op1 args2 a3 at7 i8
def zz27_F3 (N : Nat) (op1 : Int) (args2 : Y4) (a3 : Y7) (at7 i8 : Int) : Z2 := zz27_l3 N (zz27_a3) N op1 args2 a3 at7 i8
def zz27 (N : Nat) (a_0 : Y7) (op_1 : Int) (args_2 : Y4) : Z2 := zz27_s (zz27_F3 N) a_0 op_1 args_2
def S_zz27 : Sig := { a := (.pair (.pair I (.pair (.sl (.pair I (.pair (.sl I) .unit))) .unit)) (.pair I (.pair (.sl I) .unit))), md := [0, 0, 0], mf := [], m := .unit, r := I, rf := .i, f := fun x => zz27 big x.1 x.2.1 x.2.2.1 }
def A_zz27 : Cfg := mkCfg tab [] [(6, [.drop, .as I .i, .as (.sl I) .i, .as (.ptr (.pair I (.pair (.sl (.pair I (.pair (.sl I) .unit))) .unit))) (.o .i), .drop, .drop, .drop, .as I .i, .as I .i]), (13, [.drop, .as I .i, .drop, .as (.ptr (.pair I (.pair (.sl (.pair I (.pair (.sl I) .unit))) .unit))) (.o .i), .drop, .drop, .drop, .as I .i])]
noncomputable def zz27_R3 (N n : Nat) (K : Ex → St → Z2) (op1 : Int) (args2 : Y4) (a3 : Y7) (at7 i8 : Int) : Z2 := iter ((A_zz27).shape 6) (run (A_zz27) N (codeAt Tryz.f105 [1, 1, 0, 1, 0, 0])) n ([.u, .val I .i op1, .val (.sl I) .i args2, .val (.ptr (.pair I (.pair (.sl (.pair I (.pair (.sl I) .unit))) .unit))) (.o .i) a3, .u, .u, .u, .val I .i at7, .val I .i i8] ++ List.replicate 24 .u) K
noncomputable abbrev zz27_z : Ex → St → Z2 := finish (A_zz27) S_zz27 Tryz.f105.results.toList
noncomputable abbrev zz27_X3 (kX : St → Z2) : Int → Y7 → Int → Z2 := fun (op1 : Int) (a3 : Y7) (at7 : Int) => kX ([.u, .val I .i op1, .u, .val (.ptr (.pair I (.pair (.sl (.pair I (.pair (.sl I) .unit))) .unit))) (.o .i) a3, .u, .u, .u, .val I .i at7] ++ List.replicate 25 .u)
noncomputable abbrev zz27_E3 (kX : St → Z2) (kO : Nat → St → Z2) : Ex → St → Z2 := exK zz27_z 0 ((A_zz27).shape 13) kX kO
theorem zz27_step3 (N m : Nat) (kX : St → Z2) (kO : Nat → St → Z2) (op1 : Int) (args2 : Y4) (a3 : Y7) (at7 i8 : Int) : zz27_R3 N (m + 1) (zz27_E3 kX kO) op1 args2 a3 at7 i8 = zz27_b3 (zz27_R3 N m (zz27_E3 kX kO)) (zz27_X3 kX) op1 args2 a3 at7 i8 := by kernel_rfl
theorem zz27_iter3 (N : Nat) (kX : St → Z2) (kO : Nat → St → Z2) : ∀ (n : Nat) (op1 : Int) (args2 : Y4) (a3 : Y7) (at7 i8 : Int), zz27_R3 N n (zz27_E3 kX kO) op1 args2 a3 at7 i8 = zz27_l3 N (zz27_X3 kX) n op1 args2 a3 at7 i8
  | 0, _, _, _, _, _ => rfl
  | m + 1, op1, args2, a3, at7, i8 => by
    have hrec : zz27_R3 N m (zz27_E3 kX kO) = (zz27_l3 N (zz27_X3 kX) m) := (funext fun op1 => (funext fun args2 => (funext fun a3 => (funext fun at7 => (funext fun i8 => zz27_iter3 N kX kO m op1 args2 a3 at7 i8)))))
    refine (zz27_step3 N m kX kO op1 args2 a3 at7 i8).trans ?_
    rw [hrec]
    rfl
noncomputable abbrev zz27_K3 (N : Nat) : Ex → St → Z2 := (blockK 0 (seqK ((A_zz27).shape 13) (run (A_zz27) N (codeAt Tryz.f105 [1, 1, 1])) zz27_z))
noncomputable abbrev zz27_k3 (N : Nat) : St → Z2 := fun st' => run (A_zz27) N (codeAt Tryz.f105 [1, 1, 1]) st' zz27_z
theorem zz27_after3 (N : Nat) (op1 : Int) (a3 : Y7) (at7 : Int) : zz27_X3 (zz27_k3 N) op1 a3 at7 = zz27_a3 op1 a3 at7 := by kernel_rfl
theorem zz27_in3 (N : Nat) (op1 : Int) (args2 : Y4) (a3 : Y7) (at7 i8 : Int) : zz27_R3 N N (zz27_K3 N) op1 args2 a3 at7 i8 = zz27_F3 N op1 args2 a3 at7 i8 :=
  have h : zz27_X3 (zz27_k3 N) = (zz27_a3) := (funext fun op1 => (funext fun a3 => (funext fun at7 => zz27_after3 N op1 a3 at7)))
  ((iter_ex (fun st => by kernel_rfl) (fun st => by kernel_rfl)).trans (zz27_iter3 N (zz27_k3 N) (fun j st => (zz27_K3 N) (.exit j) st) N op1 args2 a3 at7 i8)).trans (congrArg (fun k => zz27_l3 N k N op1 args2 a3 at7 i8) h)
theorem run0_zz27 (N : Nat) (x : (S_zz27).a.den) : runF (A_zz27) N Tryz.f105 S_zz27 x = (zz27_s (zz27_R3 N N (zz27_K3 N)) x.1 x.2.1 x.2.2.1) := by kernel_rfl
theorem run_zz27 (N : Nat) (x : (S_zz27).a.den) : runF (A_zz27) N Tryz.f105 S_zz27 x = zz27 N x.1 x.2.1 x.2.2.1 := by
  refine (run0_zz27 N x).trans ?_
  rw [(funext fun op1 => (funext fun args2 => (funext fun a3 => (funext fun at7 => (funext fun i8 => zz27_in3 N op1 args2 a3 at7 i8)))))]
  rfl
theorem fn_zz27 : FnOk Tryz.prog 105 := ⟨_, Tryz.func105, by kernel_rfl, by kernel_rfl⟩
theorem good_zz27 : Gx.Good Tryz.prog 105 S_zz27 := good_of_run Tryz.func105 (of_decide_eq_true (by kernel_rfl)) fun x r h => ⟨A_zz27, big, mkCfg_ok tabOk, mkCfg_sigs (show SigsOk Tryz.prog [] from trivial), (run_zz27 big x).trans h⟩

/-! zz28 -/
def zz28_b10 (rec : Y4 → Y7 → Y4 → Int → Int → Y4 → Int → Z1) (k : Y4 → Y7 → Y4 → Int → Int → Z1) (p1 : Y4) (a2 : Y7) (out5 : Y4) (op6 at7 : Int) (args8 : Y4) (k9 : Int) : Z1 :=
  cond (decide (k9 < (args8.length : Int)))
  ((zz25 args8).bind fun rq5 =>
  (atI args8 k9).bind fun _ =>
  (args8[k9.toNat]?).bind fun xq6 =>
  (atI p1 xq6).bind fun xq7 =>
  (atI rq5.1 k9).bind fun _ =>
  (rq5.1[k9.toNat]?).bind fun xq8 =>
  (atI a2.2.1 op6).bind fun xq9 =>
  (atI xq9.2.1 at7).bind fun xq10 =>
  (zz27 big a2 op6 (rq5.1.set k9.toNat xq7)).bind fun rq11 =>
  (zz24 big out5 xq10 rq11.1).bind fun rq12 =>
  rec p1 a2 rq12.1 op6 at7 args8 (IntKind.i64.wrap (k9 + (1 : Int))))
  (k p1 a2 out5 op6 at7)
def zz28_a10 (rec : Y4 → Y7 → Y4 → Int → Int → Z1) (p1 : Y4) (a2 : Y7) (out5 : Y4) (op6 at7 : Int) : Z1 :=
  rec p1 a2 out5 op6 (IntKind.i64.wrap (at7 + (1 : Int)))
def zz28_b6 (L10 : Y4 → Y7 → Y4 → Int → Int → Y4 → Int → Z1) (k : Y4 → Y7 → Y4 → Int → Z1) (p1 : Y4) (a2 : Y7) (out5 : Y4) (op6 at7 : Int) : Z1 :=
  (atI a2.2.1 op6).bind fun xq2 =>
  cond (decide (at7 < (xq2.2.1.length : Int)))
  ((atI a2.2.1 op6).bind fun xq3 =>
  (zz26 big a2.1 xq3.1 at7).bind fun rq4 =>
  L10 p1 a2 out5 op6 at7 rq4.1 (0 : Int))
  (k p1 a2 out5 op6)
def zz28_a6 (rec : Y4 → Y7 → Y4 → Int → Z1) (p1 : Y4) (a2 : Y7) (out5 : Y4) (op6 : Int) : Z1 :=
  rec p1 a2 out5 (IntKind.i64.wrap (op6 + (1 : Int)))
def zz28_b3 (L6 : Y4 → Y7 → Y4 → Int → Int → Z1) (k : Y4 → Z1) (p1 : Y4) (a2 : Y7) (out5 : Y4) (op6 : Int) : Z1 :=
  cond (decide (op6 < (a2.2.1.length : Int)))
  (L6 p1 a2 out5 op6 (0 : Int))
  (k out5)
def zz28_a3 (out5 : Y4) : Z1 :=
  some (out5, (()))
def zz28_s (L3 : Y4 → Y7 → Y4 → Int → Z1) (a_0 : Y7) (p_1 : Y4) : Z1 :=
  (zz25 p_1).bind fun rq1 =>
  L3 p_1 a_0 rq1.1 (0 : Int)
def zz28_l10 (N : Nat) (k : Y4 → Y7 → Y4 → Int → Int → Z1) : Nat → Y4 → Y7 → Y4 → Int → Int → Y4 → Int → Z1
  | 0, _, _, _, _, _, _, _ => none
  | m + 1, p1, a2, out5, op6, at7, args8, k9 => zz28_b10 (zz28_l10 N k m) k p1 a2 out5 op6 at7 args8 k9
def zz28_F10 (N : Nat) (rec : Y4 → Y7 → Y4 → Int → Int → Z1) (k : Y4 → Y7 → Y4 → Int → Z1) (p1 : Y4) (a2 : Y7) (out5 : Y4) (op6 at7 : Int) (args8 : Y4) (k9 : Int) : Z1 := zz28_l10 N (zz28_a10 rec) N p1 a2 out5 op6 at7 args8 k9
def zz28_l6 (N : Nat) (k : Y4 → Y7 → Y4 → Int → Z1) : Nat → Y4 → Y7 → Y4 → Int → Int → Z1
  | 0, _, _, _, _, _ => none
  | m + 1, p1, a2, out5, op6, at7 => zz28_b6 (zz28_F10 N (zz28_l6 N k m) k) k p1 a2 out5 op6 at7
def zz28_F6 (N : Nat) (rec : Y4 → Y7 → Y4 → Int → Z1) (k : Y4 → Z1) (p1 : Y4) (a2 : Y7) (out5 : Y4) (op6 at7 : Int) : Z1 := zz28_l6 N (zz28_a6 rec) N p1 a2 out5 op6 at7
def zz28_l3 (N : Nat) (k : Y4 → Z1) : Nat → Y4 → Y7 → Y4 → Int → Z1
  | 0, _, _, _, _ => none
  | m + 1, p1, a2, out5, op6 => zz28_b3 (zz28_F6 N (zz28_l3 N k m) k) k p1 a2 out5 op6
def zz28_F3 (N : Nat) (p1 : Y4) (a2 : Y7) (out5 : Y4) (op6 : Int) : Z1 := zz28_l3 N (zz28_a3) N p1 a2 out5 op6
def zz28 (N : Nat) (a_0 : Y7) (p_1 : Y4) : Z1 := zz28_s (zz28_F3 N) a_0 p_1
def S_zz28 : Sig := { a := (.pair (.pair I (.pair (.sl (.pair I (.pair (.sl I) .unit))) .unit)) (.pair (.sl I) .unit)), md := [0, 0], mf := [], m := .unit, r := (.sl I), rf := (.o .i), f := fun x => zz28 big x.1 x.2.1 }
def A_zz28 : Cfg := mkCfg tab [(103, S_zz25), (104, S_zz26), (105, S_zz27), (72, S_zz24)] [(6, [.drop, .as (.sl I) .i, .as (.ptr (.pair I (.pair (.sl (.pair I (.pair (.sl I) .unit))) .unit))) (.o .i), .drop, .drop, .as (.sl I) (.o .i), .as I .i]), (12, [.drop, .as (.sl I) .i, .as (.ptr (.pair I (.pair (.sl (.pair I (.pair (.sl I) .unit))) .unit))) (.o .i), .drop, .drop, .as (.sl I) (.o .i), .as I .i, .as I .i]), (31, [.drop, .drop, .drop, .drop, .drop, .as (.sl I) (.o .i)]), (20, [.drop, .as (.sl I) .i, .as (.ptr (.pair I (.pair (.sl (.pair I (.pair (.sl I) .unit))) .unit))) (.o .i), .drop, .drop, .as (.sl I) (.o .i), .as I .i, .as I .i, .as (.sl I) (.o .i), .as I .i]), (9, [.drop, .as (.sl I) .i, .as (.ptr (.pair I (.pair (.sl (.pair I (.pair (.sl I) .unit))) .unit))) (.o .i), .drop, .drop, .as (.sl I) (.o .i), .as I .i]), (15, [.drop, .as (.sl I) .i, .as (.ptr (.pair I (.pair (.sl (.pair I (.pair (.sl I) .unit))) .unit))) (.o .i), .drop, .drop, .as (.sl I) (.o .i), .as I .i, .as I .i])]
noncomputable def zz28_R3 (N n : Nat) (K : Ex → St → Z1) (p1 : Y4) (a2 : Y7) (out5 : Y4) (op6 : Int) : Z1 := iter ((A_zz28).shape 6) (run (A_zz28) N (codeAt Tryz.f95 [1, 1, 0, 1, 0, 0])) n ([.u, .val (.sl I) .i p1, .val (.ptr (.pair I (.pair (.sl (.pair I (.pair (.sl I) .unit))) .unit))) (.o .i) a2, .u, .u, .val (.sl I) (.o .i) out5, .val I .i op6] ++ List.replicate 68 .u) K
noncomputable def zz28_R6 (N n : Nat) (K : Ex → St → Z1) (p1 : Y4) (a2 : Y7) (out5 : Y4) (op6 at7 : Int) : Z1 := iter ((A_zz28).shape 12) (run (A_zz28) N (codeAt Tryz.f95 [1, 1, 0, 1, 0, 0, 1, 0, 0, 1, 0, 0])) n ([.u, .val (.sl I) .i p1, .val (.ptr (.pair I (.pair (.sl (.pair I (.pair (.sl I) .unit))) .unit))) (.o .i) a2, .u, .u, .val (.sl I) (.o .i) out5, .val I .i op6, .val I .i at7] ++ List.replicate 67 .u) K
noncomputable def zz28_R10 (N n : Nat) (K : Ex → St → Z1) (p1 : Y4) (a2 : Y7) (out5 : Y4) (op6 at7 : Int) (args8 : Y4) (k9 : Int) : Z1 := iter ((A_zz28).shape 20) (run (A_zz28) N (codeAt Tryz.f95 [1, 1, 0, 1, 0, 0, 1, 0, 0, 1, 0, 0, 1, 0, 0, 1, 1, 0, 0])) n ([.u, .val (.sl I) .i p1, .val (.ptr (.pair I (.pair (.sl (.pair I (.pair (.sl I) .unit))) .unit))) (.o .i) a2, .u, .u, .val (.sl I) (.o .i) out5, .val I .i op6, .val I .i at7, .val (.sl I) (.o .i) args8, .val I .i k9] ++ List.replicate 65 .u) K
noncomputable abbrev zz28_z : Ex → St → Z1 := finish (A_zz28) S_zz28 Tryz.f95.results.toList
noncomputable abbrev zz28_X3 (kX : St → Z1) : Y4 → Z1 := fun (out5 : Y4) => kX ([.u, .u, .u, .u, .u, .val (.sl I) (.o .i) out5] ++ List.replicate 69 .u)
noncomputable abbrev zz28_E3 (kX : St → Z1) (kO : Nat → St → Z1) : Ex → St → Z1 := exK zz28_z 0 ((A_zz28).shape 31) kX kO
noncomputable abbrev zz28_X6 (kX : St → Z1) : Y4 → Y7 → Y4 → Int → Z1 := fun (p1 : Y4) (a2 : Y7) (out5 : Y4) (op6 : Int) => kX ([.u, .val (.sl I) .i p1, .val (.ptr (.pair I (.pair (.sl (.pair I (.pair (.sl I) .unit))) .unit))) (.o .i) a2, .u, .u, .val (.sl I) (.o .i) out5, .val I .i op6] ++ List.replicate 68 .u)
noncomputable abbrev zz28_E6 (kX : St → Z1) (kO : Nat → St → Z1) : Ex → St → Z1 := exK zz28_z 2 ((A_zz28).shape 9) kX kO
noncomputable abbrev zz28_X10 (kX : St → Z1) : Y4 → Y7 → Y4 → Int → Int → Z1 := fun (p1 : Y4) (a2 : Y7) (out5 : Y4) (op6 at7 : Int) => kX ([.u, .val (.sl I) .i p1, .val (.ptr (.pair I (.pair (.sl (.pair I (.pair (.sl I) .unit))) .unit))) (.o .i) a2, .u, .u, .val (.sl I) (.o .i) out5, .val I .i op6, .val I .i at7] ++ List.replicate 67 .u)
noncomputable abbrev zz28_E10 (kX : St → Z1) (kO : Nat → St → Z1) : Ex → St → Z1 := exK zz28_z 4 ((A_zz28).shape 15) kX kO
theorem zz28_step10 (N m : Nat) (kX : St → Z1) (kO : Nat → St → Z1) (p1 : Y4) (a2 : Y7) (out5 : Y4) (op6 at7 : Int) (args8 : Y4) (k9 : Int) : zz28_R10 N (m + 1) (zz28_E10 kX kO) p1 a2 out5 op6 at7 args8 k9 = zz28_b10 (zz28_R10 N m (zz28_E10 kX kO)) (zz28_X10 kX) p1 a2 out5 op6 at7 args8 k9 := by kernel_rfl
theorem zz28_iter10 (N : Nat) (kX : St → Z1) (kO : Nat → St → Z1) : ∀ (n : Nat) (p1 : Y4) (a2 : Y7) (out5 : Y4) (op6 at7 : Int) (args8 : Y4) (k9 : Int), zz28_R10 N n (zz28_E10 kX kO) p1 a2 out5 op6 at7 args8 k9 = zz28_l10 N (zz28_X10 kX) n p1 a2 out5 op6 at7 args8 k9
  | 0, _, _, _, _, _, _, _ => rfl
  | m + 1, p1, a2, out5, op6, at7, args8, k9 => by
    have hrec : zz28_R10 N m (zz28_E10 kX kO) = (zz28_l10 N (zz28_X10 kX) m) := (funext fun p1 => (funext fun a2 => (funext fun out5 => (funext fun op6 => (funext fun at7 => (funext fun args8 => (funext fun k9 => zz28_iter10 N kX kO m p1 a2 out5 op6 at7 args8 k9)))))))
    refine (zz28_step10 N m kX kO p1 a2 out5 op6 at7 args8 k9).trans ?_
    rw [hrec]
    rfl
noncomputable abbrev zz28_K10 (N m : Nat) (kX : St → Z1) (kO : Nat → St → Z1) : Ex → St → Z1 := (blockK 4 (blockK 3 (seqK ((A_zz28).shape 15) (run (A_zz28) N (codeAt Tryz.f95 [1, 1, 0, 1, 0, 0, 1, 0, 0, 1, 0, 0, 1, 1])) (iterK ((A_zz28).shape 12) (run (A_zz28) N (codeAt Tryz.f95 [1, 1, 0, 1, 0, 0, 1, 0, 0, 1, 0, 0])) m (zz28_E6 kX kO)))))
noncomputable abbrev zz28_k10 (N m : Nat) (kX : St → Z1) (kO : Nat → St → Z1) : St → Z1 := fun st' => run (A_zz28) N (codeAt Tryz.f95 [1, 1, 0, 1, 0, 0, 1, 0, 0, 1, 0, 0, 1, 1]) st' (iterK ((A_zz28).shape 12) (run (A_zz28) N (codeAt Tryz.f95 [1, 1, 0, 1, 0, 0, 1, 0, 0, 1, 0, 0])) m (zz28_E6 kX kO))
theorem zz28_after10 (N m : Nat) (kX : St → Z1) (kO : Nat → St → Z1) (p1 : Y4) (a2 : Y7) (out5 : Y4) (op6 at7 : Int) : zz28_X10 (zz28_k10 N m kX kO) p1 a2 out5 op6 at7 = zz28_a10 (zz28_R6 N m (zz28_E6 kX kO)) p1 a2 out5 op6 at7 := by kernel_rfl
theorem zz28_in10 (N m : Nat) (kX : St → Z1) (kO : Nat → St → Z1) (recF : Y4 → Y7 → Y4 → Int → Int → Z1) (hrec : zz28_R6 N m (zz28_E6 kX kO) = recF) (p1 : Y4) (a2 : Y7) (out5 : Y4) (op6 at7 : Int) (args8 : Y4) (k9 : Int) : zz28_R10 N N (zz28_K10 N m kX kO) p1 a2 out5 op6 at7 args8 k9 = zz28_F10 N recF (zz28_X6 kX) p1 a2 out5 op6 at7 args8 k9 :=
  have h : zz28_X10 (zz28_k10 N m kX kO) = (zz28_a10 recF) := (funext fun p1 => (funext fun a2 => (funext fun out5 => (funext fun op6 => (funext fun at7 => (zz28_after10 N m kX kO p1 a2 out5 op6 at7).trans (by rw [hrec]))))))
  ((iter_ex (fun st => by kernel_rfl) (fun st => by kernel_rfl)).trans (zz28_iter10 N (zz28_k10 N m kX kO) (fun j st => (zz28_K10 N m kX kO) (.exit j) st) N p1 a2 out5 op6 at7 args8 k9)).trans (congrArg (fun k => zz28_l10 N k N p1 a2 out5 op6 at7 args8 k9) h)
theorem zz28_step6 (N m : Nat) (kX : St → Z1) (kO : Nat → St → Z1) (p1 : Y4) (a2 : Y7) (out5 : Y4) (op6 at7 : Int) : zz28_R6 N (m + 1) (zz28_E6 kX kO) p1 a2 out5 op6 at7 = zz28_b6 (zz28_R10 N N (zz28_K10 N m kX kO)) (zz28_X6 kX) p1 a2 out5 op6 at7 := by kernel_rfl
theorem zz28_iter6 (N : Nat) (kX : St → Z1) (kO : Nat → St → Z1) : ∀ (n : Nat) (p1 : Y4) (a2 : Y7) (out5 : Y4) (op6 at7 : Int), zz28_R6 N n (zz28_E6 kX kO) p1 a2 out5 op6 at7 = zz28_l6 N (zz28_X6 kX) n p1 a2 out5 op6 at7
  | 0, _, _, _, _, _ => rfl
  | m + 1, p1, a2, out5, op6, at7 => by
    have hrec : zz28_R6 N m (zz28_E6 kX kO) = (zz28_l6 N (zz28_X6 kX) m) := (funext fun p1 => (funext fun a2 => (funext fun out5 => (funext fun op6 => (funext fun at7 => zz28_iter6 N kX kO m p1 a2 out5 op6 at7)))))
    refine (zz28_step6 N m kX kO p1 a2 out5 op6 at7).trans ?_
    rw [(funext fun p1 => (funext fun a2 => (funext fun out5 => (funext fun op6 => (funext fun at7 => (funext fun args8 => (funext fun k9 => zz28_in10 N m kX kO (zz28_l6 N (zz28_X6 kX) m) hrec p1 a2 out5 op6 at7 args8 k9)))))))]
    rfl
noncomputable abbrev zz28_K6 (N m : Nat) (kX : St → Z1) (kO : Nat → St → Z1) : Ex → St → Z1 := (blockK 2 (blockK 1 (seqK ((A_zz28).shape 9) (run (A_zz28) N (codeAt Tryz.f95 [1, 1, 0, 1, 0, 0, 1, 1])) (iterK ((A_zz28).shape 6) (run (A_zz28) N (codeAt Tryz.f95 [1, 1, 0, 1, 0, 0])) m (zz28_E3 kX kO)))))
noncomputable abbrev zz28_k6 (N m : Nat) (kX : St → Z1) (kO : Nat → St → Z1) : St → Z1 := fun st' => run (A_zz28) N (codeAt Tryz.f95 [1, 1, 0, 1, 0, 0, 1, 1]) st' (iterK ((A_zz28).shape 6) (run (A_zz28) N (codeAt Tryz.f95 [1, 1, 0, 1, 0, 0])) m (zz28_E3 kX kO))
theorem zz28_after6 (N m : Nat) (kX : St → Z1) (kO : Nat → St → Z1) (p1 : Y4) (a2 : Y7) (out5 : Y4) (op6 : Int) : zz28_X6 (zz28_k6 N m kX kO) p1 a2 out5 op6 = zz28_a6 (zz28_R3 N m (zz28_E3 kX kO)) p1 a2 out5 op6 := by kernel_rfl
theorem zz28_in6 (N m : Nat) (kX : St → Z1) (kO : Nat → St → Z1) (recF : Y4 → Y7 → Y4 → Int → Z1) (hrec : zz28_R3 N m (zz28_E3 kX kO) = recF) (p1 : Y4) (a2 : Y7) (out5 : Y4) (op6 at7 : Int) : zz28_R6 N N (zz28_K6 N m kX kO) p1 a2 out5 op6 at7 = zz28_F6 N recF (zz28_X3 kX) p1 a2 out5 op6 at7 :=
  have h : zz28_X6 (zz28_k6 N m kX kO) = (zz28_a6 recF) := (funext fun p1 => (funext fun a2 => (funext fun out5 => (funext fun op6 => (zz28_after6 N m kX kO p1 a2 out5 op6).trans (by rw [hrec])))))
  ((iter_ex (fun st => by kernel_rfl) (fun st => by kernel_rfl)).trans (zz28_iter6 N (zz28_k6 N m kX kO) (fun j st => (zz28_K6 N m kX kO) (.exit j) st) N p1 a2 out5 op6 at7)).trans (congrArg (fun k => zz28_l6 N k N p1 a2 out5 op6 at7) h)
theorem zz28_step3 (N m : Nat) (kX : St → Z1) (kO : Nat → St → Z1) (p1 : Y4) (a2 : Y7) (out5 : Y4) (op6 : Int) : zz28_R3 N (m + 1) (zz28_E3 kX kO) p1 a2 out5 op6 = zz28_b3 (zz28_R6 N N (zz28_K6 N m kX kO)) (zz28_X3 kX) p1 a2 out5 op6 := by kernel_rfl
theorem zz28_iter3 (N : Nat) (kX : St → Z1) (kO : Nat → St → Z1) : ∀ (n : Nat) (p1 : Y4) (a2 : Y7) (out5 : Y4) (op6 : Int), zz28_R3 N n (zz28_E3 kX kO) p1 a2 out5 op6 = zz28_l3 N (zz28_X3 kX) n p1 a2 out5 op6
  | 0, _, _, _, _ => rfl
  | m + 1, p1, a2, out5, op6 => by
    have hrec : zz28_R3 N m (zz28_E3 kX kO) = (zz28_l3 N (zz28_X3 kX) m) := (funext fun p1 => (funext fun a2 => (funext fun out5 => (funext fun op6 => zz28_iter3 N kX kO m p1 a2 out5 op6))))
    refine (zz28_step3 N m kX kO p1 a2 out5 op6).trans ?_
    rw [(funext fun p1 => (funext fun a2 => (funext fun out5 => (funext fun op6 => (funext fun at7 => zz28_in6 N m kX kO (zz28_l3 N (zz28_X3 kX) m) hrec p1 a2 out5 op6 at7)))))]
    rfl
noncomputable abbrev zz28_K3 (N : Nat) : Ex → St → Z1 := (blockK 0 (seqK ((A_zz28).shape 31) (run (A_zz28) N (codeAt Tryz.f95 [1, 1, 1])) zz28_z))
noncomputable abbrev zz28_k3 (N : Nat) : St → Z1 := fun st' => run (A_zz28) N (codeAt Tryz.f95 [1, 1, 1]) st' zz28_z
theorem zz28_after3 (N : Nat) (out5 : Y4) : zz28_X3 (zz28_k3 N) out5 = zz28_a3 out5 := by kernel_rfl
theorem zz28_in3 (N : Nat) (p1 : Y4) (a2 : Y7) (out5 : Y4) (op6 : Int) : zz28_R3 N N (zz28_K3 N) p1 a2 out5 op6 = zz28_F3 N p1 a2 out5 op6 :=
  have h : zz28_X3 (zz28_k3 N) = (zz28_a3) := (funext fun out5 => zz28_after3 N out5)
  ((iter_ex (fun st => by kernel_rfl) (fun st => by kernel_rfl)).trans (zz28_iter3 N (zz28_k3 N) (fun j st => (zz28_K3 N) (.exit j) st) N p1 a2 out5 op6)).trans (congrArg (fun k => zz28_l3 N k N p1 a2 out5 op6) h)
theorem run0_zz28 (N : Nat) (x : (S_zz28).a.den) : runF (A_zz28) N Tryz.f95 S_zz28 x = (zz28_s (zz28_R3 N N (zz28_K3 N)) x.1 x.2.1) := by kernel_rfl
theorem run_zz28 (N : Nat) (x : (S_zz28).a.den) : runF (A_zz28) N Tryz.f95 S_zz28 x = zz28 N x.1 x.2.1 := by
  refine (run0_zz28 N x).trans ?_
  rw [(funext fun p1 => (funext fun a2 => (funext fun out5 => (funext fun op6 => zz28_in3 N p1 a2 out5 op6))))]
  rfl
theorem fn_zz28 : FnOk Tryz.prog 95 := ⟨_, Tryz.func95, by kernel_rfl, by kernel_rfl⟩
theorem good_zz28 : Gx.Good Tryz.prog 95 S_zz28 := good_of_run Tryz.func95 (of_decide_eq_true (by kernel_rfl)) fun x r h => ⟨A_zz28, big, mkCfg_ok tabOk, mkCfg_sigs (show SigsOk Tryz.prog [(103, S_zz25), (104, S_zz26), (105, S_zz27), (72, S_zz24)] from ⟨⟨fn_zz25, good_zz25⟩, ⟨fn_zz26, good_zz26⟩, ⟨fn_zz27, good_zz27⟩, ⟨fn_zz24, good_zz24⟩, trivial⟩), (run_zz28 big x).trans h⟩

/-! zz29 -/
def zz29_b2 (rec : Y4 → Y7 → Int → Z1) (k : Y4 → Z1) (p1 : Y4) (a2 : Y7) (n5 : Int) : Z1 :=
  cond (decide (n5 < a2.1))
  ((zz28 big a2 p1).bind fun rq1 =>
  rec rq1.1 a2 (IntKind.i64.wrap (n5 + (1 : Int))))
  (k p1)
def zz29_a2 (p1 : Y4) : Z1 :=
  some (p1, (()))
def zz29_s (L2 : Y4 → Y7 → Int → Z1) (a_0 : Y7) (p_1 : Y4) : Z1 :=
  L2 p_1 a_0 (0 : Int)
def zz29_l2 (N : Nat) (k : Y4 → Z1) : Nat → Y4 → Y7 → Int → Z1
  | 0, _, _, _ => none
  | m + 1, p1, a2, n5 => zz29_b2 (zz29_l2 N k m) k p1 a2 n5
def zz29_F2 (N : Nat) (p1 : Y4) (a2 : Y7) (n5 : Int) : Z1 := zz29_l2 N (zz29_a2) N p1 a2 n5
def zz29 (N : Nat) (a_0 : Y7) (p_1 : Y4) : Z1 := zz29_s (zz29_F2 N) a_0 p_1
def S_zz29 : Sig := { a := (.pair (.pair I (.pair (.sl (.pair I (.pair (.sl I) .unit))) .unit)) (.pair (.sl I) .unit)), md := [0, 0], mf := [], m := .unit, r := (.sl I), rf := .i, f := fun x => zz29 big x.1 x.2.1 }
def A_zz29 : Cfg := mkCfg tab [(95, S_zz28)] [(4, [.drop, .as (.sl I) .i, .as (.ptr (.pair I (.pair (.sl (.pair I (.pair (.sl I) .unit))) .unit))) (.o .i), .drop, .drop, .as I .i]), (11, [.drop, .as (.sl I) .i])]
noncomputable def zz29_R2 (N n : Nat) (K : Ex → St → Z1) (p1 : Y4) (a2 : Y7) (n5 : Int) : Z1 := iter ((A_zz29).shape 4) (run (A_zz29) N (codeAt Tryz.f71 [1, 0, 1, 0, 0])) n ([.u, .val (.sl I) .i p1, .val (.ptr (.pair I (.pair (.sl (.pair I (.pair (.sl I) .unit))) .unit))) (.o .i) a2, .u, .u, .val I .i n5] ++ List.replicate 10 .u) K
noncomputable abbrev zz29_z : Ex → St → Z1 := finish (A_zz29) S_zz29 Tryz.f71.results.toList
noncomputable abbrev zz29_X2 (kX : St → Z1) : Y4 → Z1 := fun (p1 : Y4) => kX ([.u, .val (.sl I) .i p1] ++ List.replicate 14 .u)
noncomputable abbrev zz29_E2 (kX : St → Z1) (kO : Nat → St → Z1) : Ex → St → Z1 := exK zz29_z 0 ((A_zz29).shape 11) kX kO
theorem zz29_step2 (N m : Nat) (kX : St → Z1) (kO : Nat → St → Z1) (p1 : Y4) (a2 : Y7) (n5 : Int) : zz29_R2 N (m + 1) (zz29_E2 kX kO) p1 a2 n5 = zz29_b2 (zz29_R2 N m (zz29_E2 kX kO)) (zz29_X2 kX) p1 a2 n5 := by kernel_rfl
theorem zz29_iter2 (N : Nat) (kX : St → Z1) (kO : Nat → St → Z1) : ∀ (n : Nat) (p1 : Y4) (a2 : Y7) (n5 : Int), zz29_R2 N n (zz29_E2 kX kO) p1 a2 n5 = zz29_l2 N (zz29_X2 kX) n p1 a2 n5
  | 0, _, _, _ => rfl
  | m + 1, p1, a2, n5 => by
    have hrec : zz29_R2 N m (zz29_E2 kX kO) = (zz29_l2 N (zz29_X2 kX) m) := (funext fun p1 => (funext fun a2 => (funext fun n5 => zz29_iter2 N kX kO m p1 a2 n5)))
    refine (zz29_step2 N m kX kO p1 a2 n5).trans ?_
    rw [hrec]
    rfl
noncomputable abbrev zz29_K2 (N : Nat) : Ex → St → Z1 := (blockK 0 (seqK ((A_zz29).shape 11) (run (A_zz29) N (codeAt Tryz.f71 [1, 1])) zz29_z))
noncomputable abbrev zz29_k2 (N : Nat) : St → Z1 := fun st' => run (A_zz29) N (codeAt Tryz.f71 [1, 1]) st' zz29_z
theorem zz29_after2 (N : Nat) (p1 : Y4) : zz29_X2 (zz29_k2 N) p1 = zz29_a2 p1 := by kernel_rfl
theorem zz29_in2 (N : Nat) (p1 : Y4) (a2 : Y7) (n5 : Int) : zz29_R2 N N (zz29_K2 N) p1 a2 n5 = zz29_F2 N p1 a2 n5 :=
  have h : zz29_X2 (zz29_k2 N) = (zz29_a2) := (funext fun p1 => zz29_after2 N p1)
  ((iter_ex (fun st => by kernel_rfl) (fun st => by kernel_rfl)).trans (zz29_iter2 N (zz29_k2 N) (fun j st => (zz29_K2 N) (.exit j) st) N p1 a2 n5)).trans (congrArg (fun k => zz29_l2 N k N p1 a2 n5) h)
theorem run0_zz29 (N : Nat) (x : (S_zz29).a.den) : runF (A_zz29) N Tryz.f71 S_zz29 x = (zz29_s (zz29_R2 N N (zz29_K2 N)) x.1 x.2.1) := by kernel_rfl
theorem run_zz29 (N : Nat) (x : (S_zz29).a.den) : runF (A_zz29) N Tryz.f71 S_zz29 x = zz29 N x.1 x.2.1 := by
  refine (run0_zz29 N x).trans ?_
  rw [(funext fun p1 => (funext fun a2 => (funext fun n5 => zz29_in2 N p1 a2 n5)))]
  rfl
theorem fn_zz29 : FnOk Tryz.prog 71 := ⟨_, Tryz.func71, by kernel_rfl, by kernel_rfl⟩
theorem good_zz29 : Gx.Good Tryz.prog 71 S_zz29 := good_of_run Tryz.func71 (of_decide_eq_true (by kernel_rfl)) fun x r h => ⟨A_zz29, big, mkCfg_ok tabOk, mkCfg_sigs (show SigsOk Tryz.prog [(95, S_zz28)] from ⟨⟨fn_zz28, good_zz28⟩, trivial⟩), (run_zz29 big x).trans h⟩

/-! zz30 -/
def zz30_s (a_0 : Y7) (x_1 y_2 : Int) : Z1 :=
  (zz21 big a_0.1).bind fun rq1 =>
  (zz24 big rq1.1 x_1 y_2).bind fun rq2 =>
  (zz29 big a_0 rq2.1).bind fun rq3 =>
  some (rq3.1, (()))
def zz30 (a_0 : Y7) (x_1 y_2 : Int) : Z1 := zz30_s a_0 x_1 y_2
def S_zz30 : Sig := { a := (.pair (.pair I (.pair (.sl (.pair I (.pair (.sl I) .unit))) .unit)) (.pair I (.pair I .unit))), md := [0, 0, 0], mf := [], m := .unit, r := (.sl I), rf := .i, f := fun x => zz30 x.1 x.2.1 x.2.2.1 }
def A_zz30 : Cfg := mkCfg tab [(73, S_zz21), (72, S_zz24), (71, S_zz29)] []
theorem run_zz30 (N : Nat) (x : (S_zz30).a.den) : runF (A_zz30) N Tryz.f50 S_zz30 x = zz30 x.1 x.2.1 x.2.2.1 := by kernel_rfl
theorem fn_zz30 : FnOk Tryz.prog 50 := ⟨_, Tryz.func50, by kernel_rfl, by kernel_rfl⟩
theorem good_zz30 : Gx.Good Tryz.prog 50 S_zz30 := good_of_run Tryz.func50 (of_decide_eq_true (by kernel_rfl)) fun x r h => ⟨A_zz30, big, mkCfg_ok tabOk, mkCfg_sigs (show SigsOk Tryz.prog [(73, S_zz21), (72, S_zz24), (71, S_zz29)] from ⟨⟨fn_zz21, good_zz21⟩, ⟨fn_zz24, good_zz24⟩, ⟨fn_zz29, good_zz29⟩, trivial⟩), (run_zz30 big x).trans h⟩

/-! zz31 -/
def zz31_b4 (rec : Y4 → Y2 → Y4 → Y4 → Int → Z1) (k : Y4 → Z1) (c1 : Y4) (p2 : Y2) (out5 all6 : Y4) (i7 : Int) : Z1 :=
  cond (decide (i7 < (all6.length : Int)))
  ((atI all6 i7).bind fun _ =>
  (all6[i7.toNat]?).bind fun xq2 =>
  (atI c1 xq2).bind fun xq3 =>
  (atI all6 i7).bind fun _ =>
  (all6[i7.toNat]?).bind fun xq4 =>
  (zz20 big p2 xq4).bind fun rq5 =>
  (atI c1 rq5.1).bind fun xq6 =>
  cond (decide (xq3 = xq6))
  ((atI all6 i7).bind fun _ =>
  (all6[i7.toNat]?).bind fun xq7 =>
  (appI out5 [xq7]).bind fun xq8 =>
  rec c1 p2 xq8 all6 (IntKind.i64.wrap (i7 + (1 : Int))))
  (rec c1 p2 out5 all6 (IntKind.i64.wrap (i7 + (1 : Int)))))
  (k out5)
def zz31_a4 (out5 : Y4) : Z1 :=
  some (out5, (()))
def zz31_s (L4 : Y4 → Y2 → Y4 → Y4 → Int → Z1) (p_0 : Y2) (c_1 : Y4) : Z1 :=
  (zz18 big p_0).bind fun rq1 =>
  L4 c_1 p_0 [] rq1.1 (0 : Int)
def zz31_l4 (N : Nat) (k : Y4 → Z1) : Nat → Y4 → Y2 → Y4 → Y4 → Int → Z1
  | 0, _, _, _, _, _ => none
  | m + 1, c1, p2, out5, all6, i7 => zz31_b4 (zz31_l4 N k m) k c1 p2 out5 all6 i7
def zz31_F4 (N : Nat) (c1 : Y4) (p2 : Y2) (out5 all6 : Y4) (i7 : Int) : Z1 := zz31_l4 N (zz31_a4) N c1 p2 out5 all6 i7
def zz31 (N : Nat) (p_0 : Y2) (c_1 : Y4) : Z1 := zz31_s (zz31_F4 N) p_0 c_1
def S_zz31 : Sig := { a := (.pair (.pair (.sl (.sl I)) .unit) (.pair (.sl I) .unit)), md := [0, 0], mf := [], m := .unit, r := (.sl I), rf := (.o .i), f := fun x => zz31 big x.1 x.2.1 }
def A_zz31 : Cfg := mkCfg tab [(29, S_zz18), (52, S_zz20)] [(8, [.drop, .as (.sl I) .i, .as (.ptr (.pair (.sl (.sl I)) .unit)) (.o .i), .drop, .drop, .as (.sl I) (.o .i), .as (.sl I) (.o .i), .as I .i]), (17, [.drop, .drop, .drop, .drop, .drop, .as (.sl I) (.o .i)])]
noncomputable def zz31_R4 (N n : Nat) (K : Ex → St → Z1) (c1 : Y4) (p2 : Y2) (out5 all6 : Y4) (i7 : Int) : Z1 := iter ((A_zz31).shape 8) (run (A_zz31) N (codeAt Tryz.f49 [1, 1, 1, 0, 1, 0, 0])) n ([.u, .val (.sl I) .i c1, .val (.ptr (.pair (.sl (.sl I)) .unit)) (.o .i) p2, .u, .u, .val (.sl I) (.o .i) out5, .val (.sl I) (.o .i) all6, .val I .i i7] ++ List.replicate 34 .u) K
noncomputable abbrev zz31_z : Ex → St → Z1 := finish (A_zz31) S_zz31 Tryz.f49.results.toList
noncomputable abbrev zz31_X4 (kX : St → Z1) : Y4 → Z1 := fun (out5 : Y4) => kX ([.u, .u, .u, .u, .u, .val (.sl I) (.o .i) out5] ++ List.replicate 36 .u)
noncomputable abbrev zz31_E4 (kX : St → Z1) (kO : Nat → St → Z1) : Ex → St → Z1 := exK zz31_z 0 ((A_zz31).shape 17) kX kO
theorem zz31_step4 (N m : Nat) (kX : St → Z1) (kO : Nat → St → Z1) (c1 : Y4) (p2 : Y2) (out5 all6 : Y4) (i7 : Int) : zz31_R4 N (m + 1) (zz31_E4 kX kO) c1 p2 out5 all6 i7 = zz31_b4 (zz31_R4 N m (zz31_E4 kX kO)) (zz31_X4 kX) c1 p2 out5 all6 i7 := by kernel_rfl
theorem zz31_iter4 (N : Nat) (kX : St → Z1) (kO : Nat → St → Z1) : ∀ (n : Nat) (c1 : Y4) (p2 : Y2) (out5 all6 : Y4) (i7 : Int), zz31_R4 N n (zz31_E4 kX kO) c1 p2 out5 all6 i7 = zz31_l4 N (zz31_X4 kX) n c1 p2 out5 all6 i7
  | 0, _, _, _, _, _ => rfl
  | m + 1, c1, p2, out5, all6, i7 => by
    have hrec : zz31_R4 N m (zz31_E4 kX kO) = (zz31_l4 N (zz31_X4 kX) m) := (funext fun c1 => (funext fun p2 => (funext fun out5 => (funext fun all6 => (funext fun i7 => zz31_iter4 N kX kO m c1 p2 out5 all6 i7)))))
    refine (zz31_step4 N m kX kO c1 p2 out5 all6 i7).trans ?_
    rw [hrec]
    rfl
noncomputable abbrev zz31_K4 (N : Nat) : Ex → St → Z1 := (blockK 0 (seqK ((A_zz31).shape 17) (run (A_zz31) N (codeAt Tryz.f49 [1, 1, 1, 1])) zz31_z))
noncomputable abbrev zz31_k4 (N : Nat) : St → Z1 := fun st' => run (A_zz31) N (codeAt Tryz.f49 [1, 1, 1, 1]) st' zz31_z
theorem zz31_after4 (N : Nat) (out5 : Y4) : zz31_X4 (zz31_k4 N) out5 = zz31_a4 out5 := by kernel_rfl
theorem zz31_in4 (N : Nat) (c1 : Y4) (p2 : Y2) (out5 all6 : Y4) (i7 : Int) : zz31_R4 N N (zz31_K4 N) c1 p2 out5 all6 i7 = zz31_F4 N c1 p2 out5 all6 i7 :=
  have h : zz31_X4 (zz31_k4 N) = (zz31_a4) := (funext fun out5 => zz31_after4 N out5)
  ((iter_ex (fun st => by kernel_rfl) (fun st => by kernel_rfl)).trans (zz31_iter4 N (zz31_k4 N) (fun j st => (zz31_K4 N) (.exit j) st) N c1 p2 out5 all6 i7)).trans (congrArg (fun k => zz31_l4 N k N c1 p2 out5 all6 i7) h)
theorem run0_zz31 (N : Nat) (x : (S_zz31).a.den) : runF (A_zz31) N Tryz.f49 S_zz31 x = (zz31_s (zz31_R4 N N (zz31_K4 N)) x.1 x.2.1) := by kernel_rfl
theorem run_zz31 (N : Nat) (x : (S_zz31).a.den) : runF (A_zz31) N Tryz.f49 S_zz31 x = zz31 N x.1 x.2.1 := by
  refine (run0_zz31 N x).trans ?_
  rw [(funext fun c1 => (funext fun p2 => (funext fun out5 => (funext fun all6 => (funext fun i7 => zz31_in4 N c1 p2 out5 all6 i7)))))]
  rfl
theorem fn_zz31 : FnOk Tryz.prog 49 := ⟨_, Tryz.func49, by kernel_rfl, by kernel_rfl⟩
theorem good_zz31 : Gx.Good Tryz.prog 49 S_zz31 := good_of_run Tryz.func49 (of_decide_eq_true (by kernel_rfl)) fun x r h => ⟨A_zz31, big, mkCfg_ok tabOk, mkCfg_sigs (show SigsOk Tryz.prog [(29, S_zz18), (52, S_zz20)] from ⟨⟨fn_zz18, good_zz18⟩, ⟨fn_zz20, good_zz20⟩, trivial⟩), (run_zz31 big x).trans h⟩

/-! zz32 -/
def zz32_s (p_0 : Y2) (j_1 : Int) : Z1 :=
  (zz19 big p_0).bind fun rq1 =>
  (zz20 big p_0 j_1).bind fun rq2 =>
  (zz30 rq1.1 rq2.1 j_1).bind fun rq3 =>
  (zz31 big p_0 rq3.1).bind fun rq4 =>
  some (rq4.1, (()))
def zz32 (p_0 : Y2) (j_1 : Int) : Z1 := zz32_s p_0 j_1
def S_zz32 : Sig := { a := (.pair (.pair (.sl (.sl I)) .unit) (.pair I .unit)), md := [0, 0], mf := [], m := .unit, r := (.sl I), rf := (.o .i), f := fun x => zz32 x.1 x.2.1 }
def A_zz32 : Cfg := mkCfg tab [(51, S_zz19), (52, S_zz20), (50, S_zz30), (49, S_zz31)] []
theorem run_zz32 (N : Nat) (x : (S_zz32).a.den) : runF (A_zz32) N Tryz.f30 S_zz32 x = zz32 x.1 x.2.1 := by kernel_rfl
theorem fn_zz32 : FnOk Tryz.prog 30 := ⟨_, Tryz.func30, by kernel_rfl, by kernel_rfl⟩
theorem good_zz32 : Gx.Good Tryz.prog 30 S_zz32 := good_of_run Tryz.func30 (of_decide_eq_true (by kernel_rfl)) fun x r h => ⟨A_zz32, big, mkCfg_ok tabOk, mkCfg_sigs (show SigsOk Tryz.prog [(51, S_zz19), (52, S_zz20), (50, S_zz30), (49, S_zz31)] from ⟨⟨fn_zz19, good_zz19⟩, ⟨fn_zz20, good_zz20⟩, ⟨fn_zz30, good_zz30⟩, ⟨fn_zz31, good_zz31⟩, trivial⟩), (run_zz32 big x).trans h⟩

/-! zz33 -/
def zz33_b2 (rec : Y4 → Y4 → Int → Z0) (k : Z0) (a0 b1 : Y4) (i5 : Int) : Z0 :=
  cond (decide (i5 < (a0.length : Int)))
  ((atI a0 i5).bind fun xq1 =>
  (atI b1 i5).bind fun xq2 =>
  cond (decide (xq1 ≠ xq2))
  ((atI a0 i5).bind fun xq3 =>
  (atI b1 i5).bind fun xq4 =>
  some (decide (xq3 < xq4), (())))
  (rec a0 b1 (IntKind.i64.wrap (i5 + (1 : Int)))))
  (k)
def zz33_a2 : Z0 :=
  some (false, (()))
def zz33_s (L2 : Y4 → Y4 → Int → Z0) (a_0 b_1 : Y4) : Z0 :=
  L2 a_0 b_1 (0 : Int)
def zz33_l2 (N : Nat) (k : Z0) : Nat → Y4 → Y4 → Int → Z0
  | 0, _, _, _ => none
  | m + 1, a0, b1, i5 => zz33_b2 (zz33_l2 N k m) k a0 b1 i5
def zz33_F2 (N : Nat) (a0 b1 : Y4) (i5 : Int) : Z0 := zz33_l2 N (zz33_a2) N a0 b1 i5
def zz33 (N : Nat) (a_0 b_1 : Y4) : Z0 := zz33_s (zz33_F2 N) a_0 b_1
def S_zz33 : Sig := { a := (.pair (.sl I) (.pair (.sl I) .unit)), md := [0, 0], mf := [], m := .unit, r := .bool, rf := .i, f := fun x => zz33 big x.1 x.2.1 }
def A_zz33 : Cfg := mkCfg tab [] [(4, [.as (.sl I) .i, .as (.sl I) .i, .drop, .drop, .drop, .as I .i]), (13, [])]
noncomputable def zz33_R2 (N n : Nat) (K : Ex → St → Z0) (a0 b1 : Y4) (i5 : Int) : Z0 := iter ((A_zz33).shape 4) (run (A_zz33) N (codeAt Tryz.f54 [1, 0, 1, 0, 0])) n ([.val (.sl I) .i a0, .val (.sl I) .i b1, .u, .u, .u, .val I .i i5] ++ List.replicate 24 .u) K
noncomputable abbrev zz33_z : Ex → St → Z0 := finish (A_zz33) S_zz33 Tryz.f54.results.toList
noncomputable abbrev zz33_X2 (kX : St → Z0) : Z0 := kX ([] ++ List.replicate 30 .u)
noncomputable abbrev zz33_E2 (kX : St → Z0) (kO : Nat → St → Z0) : Ex → St → Z0 := exK zz33_z 0 ((A_zz33).shape 13) kX kO
theorem zz33_step2 (N m : Nat) (kX : St → Z0) (kO : Nat → St → Z0) (a0 b1 : Y4) (i5 : Int) : zz33_R2 N (m + 1) (zz33_E2 kX kO) a0 b1 i5 = zz33_b2 (zz33_R2 N m (zz33_E2 kX kO)) (zz33_X2 kX) a0 b1 i5 := by kernel_rfl
theorem zz33_iter2 (N : Nat) (kX : St → Z0) (kO : Nat → St → Z0) : ∀ (n : Nat) (a0 b1 : Y4) (i5 : Int), zz33_R2 N n (zz33_E2 kX kO) a0 b1 i5 = zz33_l2 N (zz33_X2 kX) n a0 b1 i5
  | 0, _, _, _ => rfl
  | m + 1, a0, b1, i5 => by
    have hrec : zz33_R2 N m (zz33_E2 kX kO) = (zz33_l2 N (zz33_X2 kX) m) := (funext fun a0 => (funext fun b1 => (funext fun i5 => zz33_iter2 N kX kO m a0 b1 i5)))
    refine (zz33_step2 N m kX kO a0 b1 i5).trans ?_
    rw [hrec]
    rfl
noncomputable abbrev zz33_K2 (N : Nat) : Ex → St → Z0 := (blockK 0 (seqK ((A_zz33).shape 13) (run (A_zz33) N (codeAt Tryz.f54 [1, 1])) zz33_z))
noncomputable abbrev zz33_k2 (N : Nat) : St → Z0 := fun st' => run (A_zz33) N (codeAt Tryz.f54 [1, 1]) st' zz33_z
theorem zz33_after2 (N : Nat) : zz33_X2 (zz33_k2 N) = zz33_a2 := by kernel_rfl
theorem zz33_in2 (N : Nat) (a0 b1 : Y4) (i5 : Int) : zz33_R2 N N (zz33_K2 N) a0 b1 i5 = zz33_F2 N a0 b1 i5 :=
  have h : zz33_X2 (zz33_k2 N) = (zz33_a2) := zz33_after2 N
  ((iter_ex (fun st => by kernel_rfl) (fun st => by kernel_rfl)).trans (zz33_iter2 N (zz33_k2 N) (fun j st => (zz33_K2 N) (.exit j) st) N a0 b1 i5)).trans (congrArg (fun k => zz33_l2 N k N a0 b1 i5) h)
theorem run0_zz33 (N : Nat) (x : (S_zz33).a.den) : runF (A_zz33) N Tryz.f54 S_zz33 x = (zz33_s (zz33_R2 N N (zz33_K2 N)) x.1 x.2.1) := by kernel_rfl
theorem run_zz33 (N : Nat) (x : (S_zz33).a.den) : runF (A_zz33) N Tryz.f54 S_zz33 x = zz33 N x.1 x.2.1 := by
  refine (run0_zz33 N x).trans ?_
  rw [(funext fun a0 => (funext fun b1 => (funext fun i5 => zz33_in2 N a0 b1 i5)))]
  rfl
theorem fn_zz33 : FnOk Tryz.prog 54 := ⟨_, Tryz.func54, by kernel_rfl, by kernel_rfl⟩
theorem good_zz33 : Gx.Good Tryz.prog 54 S_zz33 := good_of_run Tryz.func54 (of_decide_eq_true (by kernel_rfl)) fun x r h => ⟨A_zz33, big, mkCfg_ok tabOk, mkCfg_sigs (show SigsOk Tryz.prog [] from trivial), (run_zz33 big x).trans h⟩

/-! zz34 -/
def zz34_b2 (rec k : Y3 → Y4 → Int → Option Y2) (lists0 : Y3) (l1 : Y4) (k5 : Int) : Option Y2 :=
  cond (decide ((0 : Int) < k5))
  ((atI lists0 (IntKind.i64.wrap (k5 - (1 : Int)))).bind fun xq1 =>
  cond (decide ((l1.length : Int) < (xq1.length : Int)))
  (rec lists0 l1 (IntKind.i64.wrap (k5 - (1 : Int))))
  ((atI lists0 (IntKind.i64.wrap (k5 - (1 : Int)))).bind fun xq2 =>
  cond (decide ((l1.length : Int) = (xq2.length : Int)))
  ((atI lists0 (IntKind.i64.wrap (k5 - (1 : Int)))).bind fun xq3 =>
  (zz33 big l1 xq3).bind fun rq4 =>
  cond rq4.1
  (rec lists0 l1 (IntKind.i64.wrap (k5 - (1 : Int))))
  (k lists0 l1 k5))
  (k lists0 l1 k5)))
  (k lists0 l1 k5)
def zz34_a2 (lists0 : Y3) (l1 : Y4) (k5 : Int) : Option Y2 :=
  (slI lists0 0 k5).bind fun xq5 =>
  (appI [] xq5).bind fun xq6 =>
  (appI xq6 [l1]).bind fun xq7 =>
  (slI lists0 k5 lists0.length).bind fun xq8 =>
  (appI xq7 xq8).bind fun xq9 =>
  some (xq9, (()))
def zz34_s (L2 : Y3 → Y4 → Int → Option Y2) (lists_0 : Y3) (l_1 : Y4) : Option Y2 :=
  L2 lists_0 l_1 (lists_0.length : Int)
def zz34_l2 (N : Nat) (k : Y3 → Y4 → Int → Option Y2) : Nat → Y3 → Y4 → Int → Option Y2
  | 0, _, _, _ => none
  | m + 1, lists0, l1, k5 => zz34_b2 (zz34_l2 N k m) k lists0 l1 k5
def zz34_F2 (N : Nat) (lists0 : Y3) (l1 : Y4) (k5 : Int) : Option Y2 := zz34_l2 N (zz34_a2) N lists0 l1 k5
def zz34 (N : Nat) (lists_0 : Y3) (l_1 : Y4) : Option Y2 := zz34_s (zz34_F2 N) lists_0 l_1
def S_zz34 : Sig := { a := (.pair (.sl (.sl I)) (.pair (.sl I) .unit)), md := [0, 0], mf := [], m := .unit, r := (.sl (.sl I)), rf := .i, f := fun x => zz34 big x.1 x.2.1 }
def A_zz34 : Cfg := mkCfg tab [(54, S_zz33)] [(4, [.as (.sl (.sl I)) .i, .as (.sl I) .i, .drop, .drop, .drop, .as I .i]), (9, [.as (.sl (.sl I)) .i, .as (.sl I) .i, .drop, .drop, .drop, .as I .i])]
noncomputable def zz34_R2 (N n : Nat) (K : Ex → St → Option Y2) (lists0 : Y3) (l1 : Y4) (k5 : Int) : Option Y2 := iter ((A_zz34).shape 4) (run (A_zz34) N (codeAt Tryz.f32 [1, 1, 0, 0, 0])) n ([.val (.sl (.sl I)) .i lists0, .val (.sl I) .i l1, .u, .u, .u, .val I .i k5] ++ List.replicate 49 .u) K
noncomputable abbrev zz34_z : Ex → St → Option Y2 := finish (A_zz34) S_zz34 Tryz.f32.results.toList
noncomputable abbrev zz34_X2 (kX : St → Option Y2) : Y3 → Y4 → Int → Option Y2 := fun (lists0 : Y3) (l1 : Y4) (k5 : Int) => kX ([.val (.sl (.sl I)) .i lists0, .val (.sl I) .i l1, .u, .u, .u, .val I .i k5] ++ List.replicate 49 .u)
noncomputable abbrev zz34_E2 (kX : St → Option Y2) (kO : Nat → St → Option Y2) : Ex → St → Option Y2 := exK zz34_z 0 ((A_zz34).shape 9) kX kO
theorem zz34_step2 (N m : Nat) (kX : St → Option Y2) (kO : Nat → St → Option Y2) (lists0 : Y3) (l1 : Y4) (k5 : Int) : zz34_R2 N (m + 1) (zz34_E2 kX kO) lists0 l1 k5 = zz34_b2 (zz34_R2 N m (zz34_E2 kX kO)) (zz34_X2 kX) lists0 l1 k5 := by kernel_rfl
theorem zz34_iter2 (N : Nat) (kX : St → Option Y2) (kO : Nat → St → Option Y2) : ∀ (n : Nat) (lists0 : Y3) (l1 : Y4) (k5 : Int), zz34_R2 N n (zz34_E2 kX kO) lists0 l1 k5 = zz34_l2 N (zz34_X2 kX) n lists0 l1 k5
  | 0, _, _, _ => rfl
  | m + 1, lists0, l1, k5 => by
    have hrec : zz34_R2 N m (zz34_E2 kX kO) = (zz34_l2 N (zz34_X2 kX) m) := (funext fun lists0 => (funext fun l1 => (funext fun k5 => zz34_iter2 N kX kO m lists0 l1 k5)))
    refine (zz34_step2 N m kX kO lists0 l1 k5).trans ?_
    rw [hrec]
    rfl
noncomputable abbrev zz34_K2 (N : Nat) : Ex → St → Option Y2 := (blockK 0 (seqK ((A_zz34).shape 9) (run (A_zz34) N (codeAt Tryz.f32 [1, 1, 1])) zz34_z))
noncomputable abbrev zz34_k2 (N : Nat) : St → Option Y2 := fun st' => run (A_zz34) N (codeAt Tryz.f32 [1, 1, 1]) st' zz34_z
theorem zz34_after2 (N : Nat) (lists0 : Y3) (l1 : Y4) (k5 : Int) : zz34_X2 (zz34_k2 N) lists0 l1 k5 = zz34_a2 lists0 l1 k5 := by kernel_rfl
theorem zz34_in2 (N : Nat) (lists0 : Y3) (l1 : Y4) (k5 : Int) : zz34_R2 N N (zz34_K2 N) lists0 l1 k5 = zz34_F2 N lists0 l1 k5 :=
  have h : zz34_X2 (zz34_k2 N) = (zz34_a2) := (funext fun lists0 => (funext fun l1 => (funext fun k5 => zz34_after2 N lists0 l1 k5)))
  ((iter_ex (fun st => by kernel_rfl) (fun st => by kernel_rfl)).trans (zz34_iter2 N (zz34_k2 N) (fun j st => (zz34_K2 N) (.exit j) st) N lists0 l1 k5)).trans (congrArg (fun k => zz34_l2 N k N lists0 l1 k5) h)
theorem run0_zz34 (N : Nat) (x : (S_zz34).a.den) : runF (A_zz34) N Tryz.f32 S_zz34 x = (zz34_s (zz34_R2 N N (zz34_K2 N)) x.1 x.2.1) := by kernel_rfl
theorem run_zz34 (N : Nat) (x : (S_zz34).a.den) : runF (A_zz34) N Tryz.f32 S_zz34 x = zz34 N x.1 x.2.1 := by
  refine (run0_zz34 N x).trans ?_
  rw [(funext fun lists0 => (funext fun l1 => (funext fun k5 => zz34_in2 N lists0 l1 k5)))]
  rfl
theorem fn_zz34 : FnOk Tryz.prog 32 := ⟨_, Tryz.func32, by kernel_rfl, by kernel_rfl⟩
theorem good_zz34 : Gx.Good Tryz.prog 32 S_zz34 := good_of_run Tryz.func32 (of_decide_eq_true (by kernel_rfl)) fun x r h => ⟨A_zz34, big, mkCfg_ok tabOk, mkCfg_sigs (show SigsOk Tryz.prog [(54, S_zz33)] from ⟨⟨fn_zz33, good_zz33⟩, trivial⟩), (run_zz34 big x).trans h⟩

/-! zz35 -/
def zz35_b18 (rec : Y4 → Y3 → Y3 → Int → Y4 → Bool → Int → Option Y2) (k : Y4 → Y3 → Y3 → Int → Y4 → Bool → Option Y2) (all3 : Y4) (forced4 out6 : Y3) (bits7 : Int) (set8 : Y4) (good9 : Bool) (i11 : Int) : Option Y2 :=
  cond (decide (i11 < (all3.length : Int)))
  (cond good9
  ((shrI IntKind.i64 bits7 i11).bind fun xq9 =>
  cond (decide ((bitI .and IntKind.i64 xq9 (1 : Int)) = (0 : Int)))
  (rec all3 forced4 out6 bits7 set8 true (IntKind.i64.wrap (i11 + (1 : Int))))
  ((atI forced4 i11).bind fun _ =>
  (forced4[i11.toNat]?).bind fun xq10 =>
  (forced4[i11.toNat]?).bind fun xq11 =>
  (zz9 big xq11 set8).bind fun rq12 =>
  rec all3 forced4 out6 bits7 set8 rq12.1 (IntKind.i64.wrap (i11 + (1 : Int)))))
  (rec all3 forced4 out6 bits7 set8 false (IntKind.i64.wrap (i11 + (1 : Int)))))
  (k all3 forced4 out6 bits7 set8 good9)
def zz35_a18 (rec : Y4 → Y3 → Y3 → Int → Option Y2) (all3 : Y4) (forced4 out6 : Y3) (bits7 : Int) (set8 : Y4) (good9 : Bool) : Option Y2 :=
  cond good9
  ((zz34 big out6 set8).bind fun rq13 =>
  rec all3 forced4 rq13.1 (IntKind.i64.wrap (bits7 + (1 : Int))))
  (rec all3 forced4 out6 (IntKind.i64.wrap (bits7 + (1 : Int))))
def zz35_b13 (rec : Y4 → Y3 → Y3 → Int → Y4 → Bool → Int → Option Y2) (k : Y4 → Y3 → Y3 → Int → Y4 → Bool → Option Y2) (all3 : Y4) (forced4 out6 : Y3) (bits7 : Int) (set8 : Y4) (good9 : Bool) (i10 : Int) : Option Y2 :=
  cond (decide (i10 < (all3.length : Int)))
  ((shrI IntKind.i64 bits7 i10).bind fun xq6 =>
  cond (decide ((bitI .and IntKind.i64 xq6 (1 : Int)) = (1 : Int)))
  ((atI all3 i10).bind fun _ =>
  (all3[i10.toNat]?).bind fun xq7 =>
  (appI set8 [xq7]).bind fun xq8 =>
  rec all3 forced4 out6 bits7 xq8 good9 (IntKind.i64.wrap (i10 + (1 : Int))))
  (rec all3 forced4 out6 bits7 set8 good9 (IntKind.i64.wrap (i10 + (1 : Int)))))
  (k all3 forced4 out6 bits7 set8 good9)
def zz35_a13 (L18 : Y4 → Y3 → Y3 → Int → Y4 → Bool → Int → Option Y2) (all3 : Y4) (forced4 out6 : Y3) (bits7 : Int) (set8 : Y4) (good9 : Bool) : Option Y2 :=
  L18 all3 forced4 out6 bits7 set8 good9 (0 : Int)
def zz35_b9 (L13 : Y4 → Y3 → Y3 → Int → Y4 → Bool → Int → Option Y2) (k : Y3 → Option Y2) (all3 : Y4) (forced4 out6 : Y3) (bits7 : Int) : Option Y2 :=
  (shlI IntKind.i64 (1 : Int) (all3.length : Int)).bind fun xq5 =>
  cond (decide (bits7 < xq5))
  (L13 all3 forced4 out6 bits7 [] true (0 : Int))
  (k out6)
def zz35_a9 (out6 : Y3) : Option Y2 :=
  some (out6, (()))
def zz35_b4 (rec : Y2 → Y4 → Y3 → Int → Option Y2) (k : Y4 → Y3 → Option Y2) (p1 : Y2) (all3 : Y4) (forced4 : Y3) (i5 : Int) : Option Y2 :=
  cond (decide (i5 < (all3.length : Int)))
  ((atI all3 i5).bind fun _ =>
  (all3[i5.toNat]?).bind fun xq2 =>
  (zz32 p1 xq2).bind fun rq3 =>
  (appI forced4 [rq3.1]).bind fun xq4 =>
  rec p1 all3 xq4 (IntKind.i64.wrap (i5 + (1 : Int))))
  (k all3 forced4)
def zz35_a4 (L9 : Y4 → Y3 → Y3 → Int → Option Y2) (all3 : Y4) (forced4 : Y3) : Option Y2 :=
  L9 all3 forced4 [] (0 : Int)
def zz35_s (L4 : Y2 → Y4 → Y3 → Int → Option Y2) (p_0 : Y2) : Option Y2 :=
  (zz18 big p_0).bind fun rq1 =>
  L4 p_0 rq1.1 [] (0 : Int)
def zz35_l13 (N : Nat) (k : Y4 → Y3 → Y3 → Int → Y4 → Bool → Option Y2) : Nat → Y4 → Y3 → Y3 → Int → Y4 → Bool → Int → Option Y2
  | 0, _, _, _, _, _, _, _ => none
  | m + 1, all3, forced4, out6, bits7, set8, good9, i10 => zz35_b13 (zz35_l13 N k m) k all3 forced4 out6 bits7 set8 good9 i10
def zz35_l18 (N : Nat) (k : Y4 → Y3 → Y3 → Int → Y4 → Bool → Option Y2) : Nat → Y4 → Y3 → Y3 → Int → Y4 → Bool → Int → Option Y2
  | 0, _, _, _, _, _, _, _ => none
  | m + 1, all3, forced4, out6, bits7, set8, good9, i11 => zz35_b18 (zz35_l18 N k m) k all3 forced4 out6 bits7 set8 good9 i11
def zz35_F18 (N : Nat) (rec : Y4 → Y3 → Y3 → Int → Option Y2) (k : Y3 → Option Y2) (all3 : Y4) (forced4 out6 : Y3) (bits7 : Int) (set8 : Y4) (good9 : Bool) (i11 : Int) : Option Y2 := zz35_l18 N (zz35_a18 rec) N all3 forced4 out6 bits7 set8 good9 i11
def zz35_F13 (N : Nat) (rec : Y4 → Y3 → Y3 → Int → Option Y2) (k : Y3 → Option Y2) (all3 : Y4) (forced4 out6 : Y3) (bits7 : Int) (set8 : Y4) (good9 : Bool) (i10 : Int) : Option Y2 := zz35_l13 N (zz35_a13 (zz35_F18 N rec k)) N all3 forced4 out6 bits7 set8 good9 i10
def zz35_l4 (N : Nat) (k : Y4 → Y3 → Option Y2) : Nat → Y2 → Y4 → Y3 → Int → Option Y2
  | 0, _, _, _, _ => none
  | m + 1, p1, all3, forced4, i5 => zz35_b4 (zz35_l4 N k m) k p1 all3 forced4 i5
def zz35_l9 (N : Nat) (k : Y3 → Option Y2) : Nat → Y4 → Y3 → Y3 → Int → Option Y2
  | 0, _, _, _, _ => none
  | m + 1, all3, forced4, out6, bits7 => zz35_b9 (zz35_F13 N (zz35_l9 N k m) k) k all3 forced4 out6 bits7
def zz35_F9 (N : Nat) (all3 : Y4) (forced4 out6 : Y3) (bits7 : Int) : Option Y2 := zz35_l9 N (zz35_a9) N all3 forced4 out6 bits7
def zz35_F4 (N : Nat) (p1 : Y2) (all3 : Y4) (forced4 : Y3) (i5 : Int) : Option Y2 := zz35_l4 N (zz35_a4 (zz35_F9 N)) N p1 all3 forced4 i5
def zz35 (N : Nat) (p_0 : Y2) : Option Y2 := zz35_s (zz35_F4 N) p_0
def S_zz35 : Sig := { a := (.pair (.pair (.sl (.sl I)) .unit) .unit), md := [0], mf := [], m := .unit, r := (.sl (.sl I)), rf := .i, f := fun x => zz35 big x.1 }
def A_zz35 : Cfg := mkCfg tab [(29, S_zz18), (30, S_zz32), (31, S_zz9), (32, S_zz34)] [(8, [.drop, .as (.ptr (.pair (.sl (.sl I)) .unit)) (.o .i), .drop, .as (.sl I) (.o .i), .as (.sl (.sl I)) (.o (.o .i)), .as I .i]), (15, [.drop, .drop, .drop, .as (.sl I) (.o .i), .as (.sl (.sl I)) (.o (.o .i))]), (18, [.drop, .drop, .drop, .as (.sl I) (.o .i), .as (.sl (.sl I)) (.o (.o .i)), .drop, .as (.sl (.sl I)) .i, .as I .i]), (26, [.drop, .drop, .drop, .as (.sl I) (.o .i), .as (.sl (.sl I)) (.o (.o .i)), .drop, .as (.sl (.sl I)) .i, .as I .i, .as (.sl I) (.o .i), .as .bool .i, .as I .i]), (47, [.drop, .drop, .drop, .drop, .drop, .drop, .as (.sl (.sl I)) .i]), (35, [.drop, .drop, .drop, .as (.sl I) (.o .i), .as (.sl (.sl I)) (.o (.o .i)), .drop, .as (.sl (.sl I)) .i, .as I .i, .as (.sl I) (.o .i), .as .bool .i]), (36, [.drop, .drop, .drop, .as (.sl I) (.o .i), .as (.sl (.sl I)) (.o (.o .i)), .drop, .as (.sl (.sl I)) .i, .as I .i, .as (.sl I) (.o .i), .as .bool .i, .drop, .as I .i]), (43, [.drop, .drop, .drop, .as (.sl I) (.o .i), .as (.sl (.sl I)) (.o (.o .i)), .drop, .as (.sl (.sl I)) .i, .as I .i, .as (.sl I) (.o .i), .as .bool .i])]
noncomputable def zz35_R4 (N n : Nat) (K : Ex → St → Option Y2) (p1 : Y2) (all3 : Y4) (forced4 : Y3) (i5 : Int) : Option Y2 := iter ((A_zz35).shape 8) (run (A_zz35) N (codeAt Tryz.f15 [1, 1, 1, 0, 1, 0, 0])) n ([.u, .val (.ptr (.pair (.sl (.sl I)) .unit)) (.o .i) p1, .u, .val (.sl I) (.o .i) all3, .val (.sl (.sl I)) (.o (.o .i)) forced4, .val I .i i5] ++ List.replicate 78 .u) K
noncomputable def zz35_R9 (N n : Nat) (K : Ex → St → Option Y2) (all3 : Y4) (forced4 out6 : Y3) (bits7 : Int) : Option Y2 := iter ((A_zz35).shape 18) (run (A_zz35) N (codeAt Tryz.f15 [1, 1, 1, 1, 1, 0, 1, 0, 0])) n ([.u, .u, .u, .val (.sl I) (.o .i) all3, .val (.sl (.sl I)) (.o (.o .i)) forced4, .u, .val (.sl (.sl I)) .i out6, .val I .i bits7] ++ List.replicate 76 .u) K
noncomputable def zz35_R13 (N n : Nat) (K : Ex → St → Option Y2) (all3 : Y4) (forced4 out6 : Y3) (bits7 : Int) (set8 : Y4) (good9 : Bool) (i10 : Int) : Option Y2 := iter ((A_zz35).shape 26) (run (A_zz35) N (codeAt Tryz.f15 [1, 1, 1, 1, 1, 0, 1, 0, 0, 1, 0, 0, 1, 0, 1, 0, 0])) n ([.u, .u, .u, .val (.sl I) (.o .i) all3, .val (.sl (.sl I)) (.o (.o .i)) forced4, .u, .val (.sl (.sl I)) .i out6, .val I .i bits7, .val (.sl I) (.o .i) set8, .val .bool .i good9, .val I .i i10] ++ List.replicate 73 .u) K
noncomputable def zz35_R18 (N n : Nat) (K : Ex → St → Option Y2) (all3 : Y4) (forced4 out6 : Y3) (bits7 : Int) (set8 : Y4) (good9 : Bool) (i11 : Int) : Option Y2 := iter ((A_zz35).shape 36) (run (A_zz35) N (codeAt Tryz.f15 [1, 1, 1, 1, 1, 0, 1, 0, 0, 1, 0, 0, 1, 1, 0, 1, 0, 0])) n ([.u, .u, .u, .val (.sl I) (.o .i) all3, .val (.sl (.sl I)) (.o (.o .i)) forced4, .u, .val (.sl (.sl I)) .i out6, .val I .i bits7, .val (.sl I) (.o .i) set8, .val .bool .i good9, .u, .val I .i i11] ++ List.replicate 72 .u) K
noncomputable abbrev zz35_z : Ex → St → Option Y2 := finish (A_zz35) S_zz35 Tryz.f15.results.toList
noncomputable abbrev zz35_X4 (kX : St → Option Y2) : Y4 → Y3 → Option Y2 := fun (all3 : Y4) (forced4 : Y3) => kX ([.u, .u, .u, .val (.sl I) (.o .i) all3, .val (.sl (.sl I)) (.o (.o .i)) forced4] ++ List.replicate 79 .u)
noncomputable abbrev zz35_E4 (kX : St → Option Y2) (kO : Nat → St → Option Y2) : Ex → St → Option Y2 := exK zz35_z 0 ((A_zz35).shape 15) kX kO
noncomputable abbrev zz35_X9 (kX : St → Option Y2) : Y3 → Option Y2 := fun (out6 : Y3) => kX ([.u, .u, .u, .u, .u, .u, .val (.sl (.sl I)) .i out6] ++ List.replicate 77 .u)
noncomputable abbrev zz35_E9 (kX : St → Option Y2) (kO : Nat → St → Option Y2) : Ex → St → Option Y2 := exK zz35_z 2 ((A_zz35).shape 47) kX kO
noncomputable abbrev zz35_X13 (kX : St → Option Y2) : Y4 → Y3 → Y3 → Int → Y4 → Bool → Option Y2 := fun (all3 : Y4) (forced4 out6 : Y3) (bits7 : Int) (set8 : Y4) (good9 : Bool) => kX ([.u, .u, .u, .val (.sl I) (.o .i) all3, .val (.sl (.sl I)) (.o (.o .i)) forced4, .u, .val (.sl (.sl I)) .i out6, .val I .i bits7, .val (.sl I) (.o .i) set8, .val .bool .i good9] ++ List.replicate 74 .u)
noncomputable abbrev zz35_E13 (kX : St → Option Y2) (kO : Nat → St → Option Y2) : Ex → St → Option Y2 := exK zz35_z 4 ((A_zz35).shape 35) kX kO
noncomputable abbrev zz35_X18 (kX : St → Option Y2) : Y4 → Y3 → Y3 → Int → Y4 → Bool → Option Y2 := fun (all3 : Y4) (forced4 out6 : Y3) (bits7 : Int) (set8 : Y4) (good9 : Bool) => kX ([.u, .u, .u, .val (.sl I) (.o .i) all3, .val (.sl (.sl I)) (.o (.o .i)) forced4, .u, .val (.sl (.sl I)) .i out6, .val I .i bits7, .val (.sl I) (.o .i) set8, .val .bool .i good9] ++ List.replicate 74 .u)
noncomputable abbrev zz35_E18 (kX : St → Option Y2) (kO : Nat → St → Option Y2) : Ex → St → Option Y2 := exK zz35_z 6 ((A_zz35).shape 43) kX kO
theorem zz35_step4 (N m : Nat) (kX : St → Option Y2) (kO : Nat → St → Option Y2) (p1 : Y2) (all3 : Y4) (forced4 : Y3) (i5 : Int) : zz35_R4 N (m + 1) (zz35_E4 kX kO) p1 all3 forced4 i5 = zz35_b4 (zz35_R4 N m (zz35_E4 kX kO)) (zz35_X4 kX) p1 all3 forced4 i5 := by kernel_rfl
theorem zz35_iter4 (N : Nat) (kX : St → Option Y2) (kO : Nat → St → Option Y2) : ∀ (n : Nat) (p1 : Y2) (all3 : Y4) (forced4 : Y3) (i5 : Int), zz35_R4 N n (zz35_E4 kX kO) p1 all3 forced4 i5 = zz35_l4 N (zz35_X4 kX) n p1 all3 forced4 i5
  | 0, _, _, _, _ => rfl
  | m + 1, p1, all3, forced4, i5 => by
    have hrec : zz35_R4 N m (zz35_E4 kX kO) = (zz35_l4 N (zz35_X4 kX) m) := (funext fun p1 => (funext fun all3 => (funext fun forced4 => (funext fun i5 => zz35_iter4 N kX kO m p1 all3 forced4 i5))))
    refine (zz35_step4 N m kX kO p1 all3 forced4 i5).trans ?_
    rw [hrec]
    rfl
noncomputable abbrev zz35_K4 (N : Nat) : Ex → St → Option Y2 := (blockK 0 (seqK ((A_zz35).shape 15) (run (A_zz35) N (codeAt Tryz.f15 [1, 1, 1, 1])) zz35_z))
theorem zz35_step13 (N m : Nat) (kX : St → Option Y2) (kO : Nat → St → Option Y2) (all3 : Y4) (forced4 out6 : Y3) (bits7 : Int) (set8 : Y4) (good9 : Bool) (i10 : Int) : zz35_R13 N (m + 1) (zz35_E13 kX kO) all3 forced4 out6 bits7 set8 good9 i10 = zz35_b13 (zz35_R13 N m (zz35_E13 kX kO)) (zz35_X13 kX) all3 forced4 out6 bits7 set8 good9 i10 := by kernel_rfl
theorem zz35_iter13 (N : Nat) (kX : St → Option Y2) (kO : Nat → St → Option Y2) : ∀ (n : Nat) (all3 : Y4) (forced4 out6 : Y3) (bits7 : Int) (set8 : Y4) (good9 : Bool) (i10 : Int), zz35_R13 N n (zz35_E13 kX kO) all3 forced4 out6 bits7 set8 good9 i10 = zz35_l13 N (zz35_X13 kX) n all3 forced4 out6 bits7 set8 good9 i10
  | 0, _, _, _, _, _, _, _ => rfl
  | m + 1, all3, forced4, out6, bits7, set8, good9, i10 => by
    have hrec : zz35_R13 N m (zz35_E13 kX kO) = (zz35_l13 N (zz35_X13 kX) m) := (funext fun all3 => (funext fun forced4 => (funext fun out6 => (funext fun bits7 => (funext fun set8 => (funext fun good9 => (funext fun i10 => zz35_iter13 N kX kO m all3 forced4 out6 bits7 set8 good9 i10)))))))
    refine (zz35_step13 N m kX kO all3 forced4 out6 bits7 set8 good9 i10).trans ?_
    rw [hrec]
    rfl
noncomputable abbrev zz35_K13 (N m : Nat) (kX : St → Option Y2) (kO : Nat → St → Option Y2) : Ex → St → Option Y2 := (blockK 4 (seqK ((A_zz35).shape 35) (run (A_zz35) N (codeAt Tryz.f15 [1, 1, 1, 1, 1, 0, 1, 0, 0, 1, 0, 0, 1, 1])) (blockK 3 (seqK ((A_zz35).shape 21) (run (A_zz35) N (codeAt Tryz.f15 [1, 1, 1, 1, 1, 0, 1, 0, 0, 1, 1])) (iterK ((A_zz35).shape 18) (run (A_zz35) N (codeAt Tryz.f15 [1, 1, 1, 1, 1, 0, 1, 0, 0])) m (zz35_E9 kX kO))))))
theorem zz35_step18 (N m : Nat) (kX : St → Option Y2) (kO : Nat → St → Option Y2) (all3 : Y4) (forced4 out6 : Y3) (bits7 : Int) (set8 : Y4) (good9 : Bool) (i11 : Int) : zz35_R18 N (m + 1) (zz35_E18 kX kO) all3 forced4 out6 bits7 set8 good9 i11 = zz35_b18 (zz35_R18 N m (zz35_E18 kX kO)) (zz35_X18 kX) all3 forced4 out6 bits7 set8 good9 i11 := by kernel_rfl
theorem zz35_iter18 (N : Nat) (kX : St → Option Y2) (kO : Nat → St → Option Y2) : ∀ (n : Nat) (all3 : Y4) (forced4 out6 : Y3) (bits7 : Int) (set8 : Y4) (good9 : Bool) (i11 : Int), zz35_R18 N n (zz35_E18 kX kO) all3 forced4 out6 bits7 set8 good9 i11 = zz35_l18 N (zz35_X18 kX) n all3 forced4 out6 bits7 set8 good9 i11
  | 0, _, _, _, _, _, _, _ => rfl
  | m + 1, all3, forced4, out6, bits7, set8, good9, i11 => by
    have hrec : zz35_R18 N m (zz35_E18 kX kO) = (zz35_l18 N (zz35_X18 kX) m) := (funext fun all3 => (funext fun forced4 => (funext fun out6 => (funext fun bits7 => (funext fun set8 => (funext fun good9 => (funext fun i11 => zz35_iter18 N kX kO m all3 forced4 out6 bits7 set8 good9 i11)))))))
    refine (zz35_step18 N m kX kO all3 forced4 out6 bits7 set8 good9 i11).trans ?_
    rw [hrec]
    rfl
noncomputable abbrev zz35_K18 (N m : Nat) (kX : St → Option Y2) (kO : Nat → St → Option Y2) : Ex → St → Option Y2 := (blockK 6 (seqK ((A_zz35).shape 43) (run (A_zz35) N (codeAt Tryz.f15 [1, 1, 1, 1, 1, 0, 1, 0, 0, 1, 0, 0, 1, 1, 1])) (blockK 3 (seqK ((A_zz35).shape 21) (run (A_zz35) N (codeAt Tryz.f15 [1, 1, 1, 1, 1, 0, 1, 0, 0, 1, 1])) (iterK ((A_zz35).shape 18) (run (A_zz35) N (codeAt Tryz.f15 [1, 1, 1, 1, 1, 0, 1, 0, 0])) m (zz35_E9 kX kO))))))
noncomputable abbrev zz35_k18 (N m : Nat) (kX : St → Option Y2) (kO : Nat → St → Option Y2) : St → Option Y2 := fun st' => run (A_zz35) N (codeAt Tryz.f15 [1, 1, 1, 1, 1, 0, 1, 0, 0, 1, 0, 0, 1, 1, 1]) st' (blockK 3 (seqK ((A_zz35).shape 21) (run (A_zz35) N (codeAt Tryz.f15 [1, 1, 1, 1, 1, 0, 1, 0, 0, 1, 1])) (iterK ((A_zz35).shape 18) (run (A_zz35) N (codeAt Tryz.f15 [1, 1, 1, 1, 1, 0, 1, 0, 0])) m (zz35_E9 kX kO))))
theorem zz35_after18 (N m : Nat) (kX : St → Option Y2) (kO : Nat → St → Option Y2) (all3 : Y4) (forced4 out6 : Y3) (bits7 : Int) (set8 : Y4) (good9 : Bool) : zz35_X18 (zz35_k18 N m kX kO) all3 forced4 out6 bits7 set8 good9 = zz35_a18 (zz35_R9 N m (zz35_E9 kX kO)) all3 forced4 out6 bits7 set8 good9 := by kernel_rfl
theorem zz35_in18 (N m : Nat) (kX : St → Option Y2) (kO : Nat → St → Option Y2) (recF : Y4 → Y3 → Y3 → Int → Option Y2) (hrec : zz35_R9 N m (zz35_E9 kX kO) = recF) (all3 : Y4) (forced4 out6 : Y3) (bits7 : Int) (set8 : Y4) (good9 : Bool) (i11 : Int) : zz35_R18 N N (zz35_K18 N m kX kO) all3 forced4 out6 bits7 set8 good9 i11 = zz35_F18 N recF (zz35_X9 kX) all3 forced4 out6 bits7 set8 good9 i11 :=
  have h : zz35_X18 (zz35_k18 N m kX kO) = (zz35_a18 recF) := (funext fun all3 => (funext fun forced4 => (funext fun out6 => (funext fun bits7 => (funext fun set8 => (funext fun good9 => (zz35_after18 N m kX kO all3 forced4 out6 bits7 set8 good9).trans (by rw [hrec])))))))
  ((iter_ex (fun st => by kernel_rfl) (fun st => by kernel_rfl)).trans (zz35_iter18 N (zz35_k18 N m kX kO) (fun j st => (zz35_K18 N m kX kO) (.exit j) st) N all3 forced4 out6 bits7 set8 good9 i11)).trans (congrArg (fun k => zz35_l18 N k N all3 forced4 out6 bits7 set8 good9 i11) h)
noncomputable abbrev zz35_k13 (N m : Nat) (kX : St → Option Y2) (kO : Nat → St → Option Y2) : St → Option Y2 := fun st' => run (A_zz35) N (codeAt Tryz.f15 [1, 1, 1, 1, 1, 0, 1, 0, 0, 1, 0, 0, 1, 1]) st' (blockK 3 (seqK ((A_zz35).shape 21) (run (A_zz35) N (codeAt Tryz.f15 [1, 1, 1, 1, 1, 0, 1, 0, 0, 1, 1])) (iterK ((A_zz35).shape 18) (run (A_zz35) N (codeAt Tryz.f15 [1, 1, 1, 1, 1, 0, 1, 0, 0])) m (zz35_E9 kX kO))))
theorem zz35_after13 (N m : Nat) (kX : St → Option Y2) (kO : Nat → St → Option Y2) (all3 : Y4) (forced4 out6 : Y3) (bits7 : Int) (set8 : Y4) (good9 : Bool) : zz35_X13 (zz35_k13 N m kX kO) all3 forced4 out6 bits7 set8 good9 = zz35_a13 (zz35_R18 N N (zz35_K18 N m kX kO)) all3 forced4 out6 bits7 set8 good9 := by kernel_rfl
theorem zz35_in13 (N m : Nat) (kX : St → Option Y2) (kO : Nat → St → Option Y2) (recF : Y4 → Y3 → Y3 → Int → Option Y2) (hrec : zz35_R9 N m (zz35_E9 kX kO) = recF) (all3 : Y4) (forced4 out6 : Y3) (bits7 : Int) (set8 : Y4) (good9 : Bool) (i10 : Int) : zz35_R13 N N (zz35_K13 N m kX kO) all3 forced4 out6 bits7 set8 good9 i10 = zz35_F13 N recF (zz35_X9 kX) all3 forced4 out6 bits7 set8 good9 i10 :=
  have h : zz35_X13 (zz35_k13 N m kX kO) = (zz35_a13 (zz35_F18 N recF (zz35_X9 kX))) := (funext fun all3 => (funext fun forced4 => (funext fun out6 => (funext fun bits7 => (funext fun set8 => (funext fun good9 => (zz35_after13 N m kX kO all3 forced4 out6 bits7 set8 good9).trans (by rw [(funext fun all3 => (funext fun forced4 => (funext fun out6 => (funext fun bits7 => (funext fun set8 => (funext fun good9 => (funext fun i11 => zz35_in18 N m kX kO recF hrec all3 forced4 out6 bits7 set8 good9 i11)))))))])))))))
  ((iter_ex (fun st => by kernel_rfl) (fun st => by kernel_rfl)).trans (zz35_iter13 N (zz35_k13 N m kX kO) (fun j st => (zz35_K13 N m kX kO) (.exit j) st) N all3 forced4 out6 bits7 set8 good9 i10)).trans (congrArg (fun k => zz35_l13 N k N all3 forced4 out6 bits7 set8 good9 i10) h)
theorem zz35_step9 (N m : Nat) (kX : St → Option Y2) (kO : Nat → St → Option Y2) (all3 : Y4) (forced4 out6 : Y3) (bits7 : Int) : zz35_R9 N (m + 1) (zz35_E9 kX kO) all3 forced4 out6 bits7 = zz35_b9 (zz35_R13 N N (zz35_K13 N m kX kO)) (zz35_X9 kX) all3 forced4 out6 bits7 := by kernel_rfl
theorem zz35_iter9 (N : Nat) (kX : St → Option Y2) (kO : Nat → St → Option Y2) : ∀ (n : Nat) (all3 : Y4) (forced4 out6 : Y3) (bits7 : Int), zz35_R9 N n (zz35_E9 kX kO) all3 forced4 out6 bits7 = zz35_l9 N (zz35_X9 kX) n all3 forced4 out6 bits7
  | 0, _, _, _, _ => rfl
  | m + 1, all3, forced4, out6, bits7 => by
    have hrec : zz35_R9 N m (zz35_E9 kX kO) = (zz35_l9 N (zz35_X9 kX) m) := (funext fun all3 => (funext fun forced4 => (funext fun out6 => (funext fun bits7 => zz35_iter9 N kX kO m all3 forced4 out6 bits7))))
    refine (zz35_step9 N m kX kO all3 forced4 out6 bits7).trans ?_
    rw [(funext fun all3 => (funext fun forced4 => (funext fun out6 => (funext fun bits7 => (funext fun set8 => (funext fun good9 => (funext fun i10 => zz35_in13 N m kX kO (zz35_l9 N (zz35_X9 kX) m) hrec all3 forced4 out6 bits7 set8 good9 i10)))))))]
    rfl
noncomputable abbrev zz35_K9 (N : Nat) : Ex → St → Option Y2 := (blockK 2 (seqK ((A_zz35).shape 47) (run (A_zz35) N (codeAt Tryz.f15 [1, 1, 1, 1, 1, 1])) zz35_z))
noncomputable abbrev zz35_k9 (N : Nat) : St → Option Y2 := fun st' => run (A_zz35) N (codeAt Tryz.f15 [1, 1, 1, 1, 1, 1]) st' zz35_z
theorem zz35_after9 (N : Nat) (out6 : Y3) : zz35_X9 (zz35_k9 N) out6 = zz35_a9 out6 := by kernel_rfl
theorem zz35_in9 (N : Nat) (all3 : Y4) (forced4 out6 : Y3) (bits7 : Int) : zz35_R9 N N (zz35_K9 N) all3 forced4 out6 bits7 = zz35_F9 N all3 forced4 out6 bits7 :=
  have h : zz35_X9 (zz35_k9 N) = (zz35_a9) := (funext fun out6 => zz35_after9 N out6)
  ((iter_ex (fun st => by kernel_rfl) (fun st => by kernel_rfl)).trans (zz35_iter9 N (zz35_k9 N) (fun j st => (zz35_K9 N) (.exit j) st) N all3 forced4 out6 bits7)).trans (congrArg (fun k => zz35_l9 N k N all3 forced4 out6 bits7) h)
noncomputable abbrev zz35_k4 (N : Nat) : St → Option Y2 := fun st' => run (A_zz35) N (codeAt Tryz.f15 [1, 1, 1, 1]) st' zz35_z
theorem zz35_after4 (N : Nat) (all3 : Y4) (forced4 : Y3) : zz35_X4 (zz35_k4 N) all3 forced4 = zz35_a4 (zz35_R9 N N (zz35_K9 N)) all3 forced4 := by kernel_rfl
theorem zz35_in4 (N : Nat) (p1 : Y2) (all3 : Y4) (forced4 : Y3) (i5 : Int) : zz35_R4 N N (zz35_K4 N) p1 all3 forced4 i5 = zz35_F4 N p1 all3 forced4 i5 :=
  have h : zz35_X4 (zz35_k4 N) = (zz35_a4 (zz35_F9 N)) := (funext fun all3 => (funext fun forced4 => (zz35_after4 N all3 forced4).trans (by rw [(funext fun all3 => (funext fun forced4 => (funext fun out6 => (funext fun bits7 => zz35_in9 N all3 forced4 out6 bits7))))])))
  ((iter_ex (fun st => by kernel_rfl) (fun st => by kernel_rfl)).trans (zz35_iter4 N (zz35_k4 N) (fun j st => (zz35_K4 N) (.exit j) st) N p1 all3 forced4 i5)).trans (congrArg (fun k => zz35_l4 N k N p1 all3 forced4 i5) h)
theorem run0_zz35 (N : Nat) (x : (S_zz35).a.den) : runF (A_zz35) N Tryz.f15 S_zz35 x = (zz35_s (zz35_R4 N N (zz35_K4 N)) x.1) := by kernel_rfl
theorem run_zz35 (N : Nat) (x : (S_zz35).a.den) : runF (A_zz35) N Tryz.f15 S_zz35 x = zz35 N x.1 := by
  refine (run0_zz35 N x).trans ?_
  rw [(funext fun p1 => (funext fun all3 => (funext fun forced4 => (funext fun i5 => zz35_in4 N p1 all3 forced4 i5))))]
  rfl
theorem fn_zz35 : FnOk Tryz.prog 15 := ⟨_, Tryz.func15, by kernel_rfl, by kernel_rfl⟩
theorem good_zz35 : Gx.Good Tryz.prog 15 S_zz35 := good_of_run Tryz.func15 (of_decide_eq_true (by kernel_rfl)) fun x r h => ⟨A_zz35, big, mkCfg_ok tabOk, mkCfg_sigs (show SigsOk Tryz.prog [(29, S_zz18), (30, S_zz32), (31, S_zz9), (32, S_zz34)] from ⟨⟨fn_zz18, good_zz18⟩, ⟨fn_zz32, good_zz32⟩, ⟨fn_zz9, good_zz9⟩, ⟨fn_zz34, good_zz34⟩, trivial⟩), (run_zz35 big x).trans h⟩

/-! zz36 -/
def zz36_s (p_0 : Y2) : Z4 :=
  (zz15 p_0).bind fun rq1 =>
  cond (!rq1.1)
  (some (([], false, ()), (())))
  ((zz35 big p_0).bind fun rq2 =>
  some ((rq2.1, true, ()), (())))
def zz36 (p_0 : Y2) : Z4 := zz36_s p_0
def S_zz36 : Sig := { a := (.pair (.pair (.sl (.sl I)) .unit) .unit), md := [0], mf := [], m := .unit, r := (.tup (.pair (.sl (.sl I)) (.pair .bool .unit))), rf := .i, f := fun x => zz36 x.1 }
def A_zz36 : Cfg := mkCfg tab [(14, S_zz15), (15, S_zz35)] []
theorem run_zz36 (N : Nat) (x : (S_zz36).a.den) : runF (A_zz36) N Tryz.f5 S_zz36 x = zz36 x.1 := by kernel_rfl
theorem fn_zz36 : FnOk Tryz.prog 5 := ⟨_, Tryz.func5, by kernel_rfl, by kernel_rfl⟩
theorem good_zz36 : Gx.Good Tryz.prog 5 S_zz36 := good_of_run Tryz.func5 (of_decide_eq_true (by kernel_rfl)) fun x r h => ⟨A_zz36, big, mkCfg_ok tabOk, mkCfg_sigs (show SigsOk Tryz.prog [(14, S_zz15), (15, S_zz35)] from ⟨⟨fn_zz15, good_zz15⟩, ⟨fn_zz35, good_zz35⟩, trivial⟩), (run_zz36 big x).trans h⟩

/-! zz37 -/
def zz37_b3 (rec : Int → Y5 → Int → Int → Z6) (k : Y5 → Z6) (n0 : Int) (o3 : Y5) (t8 t9 : Int) : Z6 :=
  cond (decide (t9 < t8))
  ((mkI false n0).bind fun xq3 => (mkI false n0).bind fun xq4 => cond (decide (n0 ≤ n0))
  ((atI o3 t9).bind fun _ =>
  (o3[t9.toNat]?).bind fun xq5 =>
  rec n0 (o3.set t9.toNat xq4) t8 (IntKind.i64.wrap (t9 + (1 : Int))))
  none)
  (k o3)
def zz37_a3 (o3 : Y5) : Z6 :=
  some (o3, (()))
def zz37_s (L3 : Int → Y5 → Int → Int → Z6) (n_0 : Int) : Z6 :=
  (mkI ([] : (List Bool)) n_0).bind fun xq1 => (mkI ([] : (List Bool)) n_0).bind fun xq2 => cond (decide (n_0 ≤ n_0))
  (L3 n_0 xq2 (xq2.length : Int) (0 : Int))
  none
def zz37_l3 (N : Nat) (k : Y5 → Z6) : Nat → Int → Y5 → Int → Int → Z6
  | 0, _, _, _, _ => none
  | m + 1, n0, o3, t8, t9 => zz37_b3 (zz37_l3 N k m) k n0 o3 t8 t9
def zz37_F3 (N : Nat) (n0 : Int) (o3 : Y5) (t8 t9 : Int) : Z6 := zz37_l3 N (zz37_a3) N n0 o3 t8 t9
def zz37 (N : Nat) (n_0 : Int) : Z6 := zz37_s (zz37_F3 N) n_0
def S_zz37 : Sig := { a := (.pair I .unit), md := [0], mf := [], m := .unit, r := (.sl (.sl .bool)), rf := (.o (.o .i)), f := fun x => zz37 big x.1 }
def A_zz37 : Cfg := mkCfg tab [] [(6, [.as I .i, .drop, .drop, .as (.sl (.sl .bool)) (.o (.o .i)), .drop, .drop, .drop, .drop, .as I .i, .as I .i]), (15, [.drop, .drop, .drop, .as (.sl (.sl .bool)) (.o (.o .i))])]
noncomputable def zz37_R3 (N n : Nat) (K : Ex → St → Z6) (n0 : Int) (o3 : Y5) (t8 t9 : Int) : Z6 := iter ((A_zz37).shape 6) (run (A_zz37) N (codeAt Tryz.f74 [1, 1, 0, 1, 0, 0])) n ([.val I .i n0, .u, .u, .val (.sl (.sl .bool)) (.o (.o .i)) o3, .u, .u, .u, .u, .val I .i t8, .val I .i t9] ++ List.replicate 9 .u) K
noncomputable abbrev zz37_z : Ex → St → Z6 := finish (A_zz37) S_zz37 Tryz.f74.results.toList
noncomputable abbrev zz37_X3 (kX : St → Z6) : Y5 → Z6 := fun (o3 : Y5) => kX ([.u, .u, .u, .val (.sl (.sl .bool)) (.o (.o .i)) o3] ++ List.replicate 15 .u)
noncomputable abbrev zz37_E3 (kX : St → Z6) (kO : Nat → St → Z6) : Ex → St → Z6 := exK zz37_z 0 ((A_zz37).shape 15) kX kO
theorem zz37_step3 (N m : Nat) (kX : St → Z6) (kO : Nat → St → Z6) (n0 : Int) (o3 : Y5) (t8 t9 : Int) : zz37_R3 N (m + 1) (zz37_E3 kX kO) n0 o3 t8 t9 = zz37_b3 (zz37_R3 N m (zz37_E3 kX kO)) (zz37_X3 kX) n0 o3 t8 t9 := by kernel_rfl
theorem zz37_iter3 (N : Nat) (kX : St → Z6) (kO : Nat → St → Z6) : ∀ (n : Nat) (n0 : Int) (o3 : Y5) (t8 t9 : Int), zz37_R3 N n (zz37_E3 kX kO) n0 o3 t8 t9 = zz37_l3 N (zz37_X3 kX) n n0 o3 t8 t9
  | 0, _, _, _, _ => rfl
  | m + 1, n0, o3, t8, t9 => by
    have hrec : zz37_R3 N m (zz37_E3 kX kO) = (zz37_l3 N (zz37_X3 kX) m) := (funext fun n0 => (funext fun o3 => (funext fun t8 => (funext fun t9 => zz37_iter3 N kX kO m n0 o3 t8 t9))))
    refine (zz37_step3 N m kX kO n0 o3 t8 t9).trans ?_
    rw [hrec]
    rfl
noncomputable abbrev zz37_K3 (N : Nat) : Ex → St → Z6 := (blockK 0 (seqK ((A_zz37).shape 15) (run (A_zz37) N (codeAt Tryz.f74 [1, 1, 1])) zz37_z))
noncomputable abbrev zz37_k3 (N : Nat) : St → Z6 := fun st' => run (A_zz37) N (codeAt Tryz.f74 [1, 1, 1]) st' zz37_z
theorem zz37_after3 (N : Nat) (o3 : Y5) : zz37_X3 (zz37_k3 N) o3 = zz37_a3 o3 := by kernel_rfl
theorem zz37_in3 (N : Nat) (n0 : Int) (o3 : Y5) (t8 t9 : Int) : zz37_R3 N N (zz37_K3 N) n0 o3 t8 t9 = zz37_F3 N n0 o3 t8 t9 :=
  have h : zz37_X3 (zz37_k3 N) = (zz37_a3) := (funext fun o3 => zz37_after3 N o3)
  ((iter_ex (fun st => by kernel_rfl) (fun st => by kernel_rfl)).trans (zz37_iter3 N (zz37_k3 N) (fun j st => (zz37_K3 N) (.exit j) st) N n0 o3 t8 t9)).trans (congrArg (fun k => zz37_l3 N k N n0 o3 t8 t9) h)
theorem run0_zz37 (N : Nat) (x : (S_zz37).a.den) : runF (A_zz37) N Tryz.f74 S_zz37 x = (zz37_s (zz37_R3 N N (zz37_K3 N)) x.1) := by kernel_rfl
theorem run_zz37 (N : Nat) (x : (S_zz37).a.den) : runF (A_zz37) N Tryz.f74 S_zz37 x = zz37 N x.1 := by
  refine (run0_zz37 N x).trans ?_
  rw [(funext fun n0 => (funext fun o3 => (funext fun t8 => (funext fun t9 => zz37_in3 N n0 o3 t8 t9))))]
  rfl
theorem fn_zz37 : FnOk Tryz.prog 74 := ⟨_, Tryz.func74, by kernel_rfl, by kernel_rfl⟩
theorem good_zz37 : Gx.Good Tryz.prog 74 S_zz37 := good_of_run Tryz.func74 (of_decide_eq_true (by kernel_rfl)) fun x r h => ⟨A_zz37, big, mkCfg_ok tabOk, mkCfg_sigs (show SigsOk Tryz.prog [] from trivial), (run_zz37 big x).trans h⟩

/-! zz38 -/
def zz38_b2 (rec : Y4 → Int → Z0) (k : Z0) (list0 : Y4) (i3 : Int) : Z0 :=
  cond (decide (i3 < (list0.length : Int)))
  ((atI list0 (IntKind.i64.wrap (i3 - (1 : Int)))).bind fun xq1 =>
  (atI list0 i3).bind fun xq2 =>
  cond (decide (xq2 ≤ xq1))
  (some (false, (())))
  (rec list0 (IntKind.i64.wrap (i3 + (1 : Int)))))
  (k)
def zz38_a2 : Z0 :=
  some (true, (()))
def zz38_s (L2 : Y4 → Int → Z0) (list_0 : Y4) : Z0 :=
  L2 list_0 (1 : Int)
def zz38_l2 (N : Nat) (k : Z0) : Nat → Y4 → Int → Z0
  | 0, _, _ => none
  | m + 1, list0, i3 => zz38_b2 (zz38_l2 N k m) k list0 i3
def zz38_F2 (N : Nat) (list0 : Y4) (i3 : Int) : Z0 := zz38_l2 N (zz38_a2) N list0 i3
def zz38 (N : Nat) (list_0 : Y4) : Z0 := zz38_s (zz38_F2 N) list_0
def S_zz38 : Sig := { a := (.pair (.sl I) .unit), md := [0], mf := [], m := .unit, r := .bool, rf := .i, f := fun x => zz38 big x.1 }
def A_zz38 : Cfg := mkCfg tab [] [(4, [.as (.sl I) .i, .drop, .drop, .as I .i]), (13, [])]
noncomputable def zz38_R2 (N n : Nat) (K : Ex → St → Z0) (list0 : Y4) (i3 : Int) : Z0 := iter ((A_zz38).shape 4) (run (A_zz38) N (codeAt Tryz.f41 [1, 0, 1, 0, 0])) n ([.val (.sl I) .i list0, .u, .u, .val I .i i3] ++ List.replicate 16 .u) K
noncomputable abbrev zz38_z : Ex → St → Z0 := finish (A_zz38) S_zz38 Tryz.f41.results.toList
noncomputable abbrev zz38_X2 (kX : St → Z0) : Z0 := kX ([] ++ List.replicate 20 .u)
noncomputable abbrev zz38_E2 (kX : St → Z0) (kO : Nat → St → Z0) : Ex → St → Z0 := exK zz38_z 0 ((A_zz38).shape 13) kX kO
theorem zz38_step2 (N m : Nat) (kX : St → Z0) (kO : Nat → St → Z0) (list0 : Y4) (i3 : Int) : zz38_R2 N (m + 1) (zz38_E2 kX kO) list0 i3 = zz38_b2 (zz38_R2 N m (zz38_E2 kX kO)) (zz38_X2 kX) list0 i3 := by kernel_rfl
theorem zz38_iter2 (N : Nat) (kX : St → Z0) (kO : Nat → St → Z0) : ∀ (n : Nat) (list0 : Y4) (i3 : Int), zz38_R2 N n (zz38_E2 kX kO) list0 i3 = zz38_l2 N (zz38_X2 kX) n list0 i3
  | 0, _, _ => rfl
  | m + 1, list0, i3 => by
    have hrec : zz38_R2 N m (zz38_E2 kX kO) = (zz38_l2 N (zz38_X2 kX) m) := (funext fun list0 => (funext fun i3 => zz38_iter2 N kX kO m list0 i3))
    refine (zz38_step2 N m kX kO list0 i3).trans ?_
    rw [hrec]
    rfl
noncomputable abbrev zz38_K2 (N : Nat) : Ex → St → Z0 := (blockK 0 (seqK ((A_zz38).shape 13) (run (A_zz38) N (codeAt Tryz.f41 [1, 1])) zz38_z))
noncomputable abbrev zz38_k2 (N : Nat) : St → Z0 := fun st' => run (A_zz38) N (codeAt Tryz.f41 [1, 1]) st' zz38_z
theorem zz38_after2 (N : Nat) : zz38_X2 (zz38_k2 N) = zz38_a2 := by kernel_rfl
theorem zz38_in2 (N : Nat) (list0 : Y4) (i3 : Int) : zz38_R2 N N (zz38_K2 N) list0 i3 = zz38_F2 N list0 i3 :=
  have h : zz38_X2 (zz38_k2 N) = (zz38_a2) := zz38_after2 N
  ((iter_ex (fun st => by kernel_rfl) (fun st => by kernel_rfl)).trans (zz38_iter2 N (zz38_k2 N) (fun j st => (zz38_K2 N) (.exit j) st) N list0 i3)).trans (congrArg (fun k => zz38_l2 N k N list0 i3) h)
theorem run0_zz38 (N : Nat) (x : (S_zz38).a.den) : runF (A_zz38) N Tryz.f41 S_zz38 x = (zz38_s (zz38_R2 N N (zz38_K2 N)) x.1) := by kernel_rfl
theorem run_zz38 (N : Nat) (x : (S_zz38).a.den) : runF (A_zz38) N Tryz.f41 S_zz38 x = zz38 N x.1 := by
  refine (run0_zz38 N x).trans ?_
  rw [(funext fun list0 => (funext fun i3 => zz38_in2 N list0 i3))]
  rfl
theorem fn_zz38 : FnOk Tryz.prog 41 := ⟨_, Tryz.func41, by kernel_rfl, by kernel_rfl⟩
theorem good_zz38 : Gx.Good Tryz.prog 41 S_zz38 := good_of_run Tryz.func41 (of_decide_eq_true (by kernel_rfl)) fun x r h => ⟨A_zz38, big, mkCfg_ok tabOk, mkCfg_sigs (show SigsOk Tryz.prog [] from trivial), (run_zz38 big x).trans h⟩

/-! zz39 -/
def zz39_b2 (rec : Int → Y4 → Int → Int → Z0) (k : Z0) (n1 : Int) (t7 : Y4) (t8 t9 : Int) : Z0 :=
  cond (decide (t9 < t8))
  ((atI t7 t9).bind fun xq1 =>
  cond (decide (xq1 < (0 : Int)))
  (some (false, (())))
  (cond (decide (n1 ≤ xq1))
  (some (false, (())))
  (rec n1 t7 t8 (IntKind.i64.wrap (t9 + (1 : Int))))))
  (k)
def zz39_a2 : Z0 :=
  some (true, (()))
def zz39_s (L2 : Int → Y4 → Int → Int → Z0) (list_0 : Y4) (n_1 : Int) : Z0 :=
  L2 n_1 list_0 (list_0.length : Int) (0 : Int)
def zz39_l2 (N : Nat) (k : Z0) : Nat → Int → Y4 → Int → Int → Z0
  | 0, _, _, _, _ => none
  | m + 1, n1, t7, t8, t9 => zz39_b2 (zz39_l2 N k m) k n1 t7 t8 t9
def zz39_F2 (N : Nat) (n1 : Int) (t7 : Y4) (t8 t9 : Int) : Z0 := zz39_l2 N (zz39_a2) N n1 t7 t8 t9
def zz39 (N : Nat) (list_0 : Y4) (n_1 : Int) : Z0 := zz39_s (zz39_F2 N) list_0 n_1
def S_zz39 : Sig := { a := (.pair (.sl I) (.pair I .unit)), md := [0, 0], mf := [], m := .unit, r := .bool, rf := .i, f := fun x => zz39 big x.1 x.2.1 }
def A_zz39 : Cfg := mkCfg tab [] [(4, [.drop, .as I .i, .drop, .drop, .drop, .drop, .drop, .as (.sl I) .i, .as I .i, .as I .i]), (15, [])]
noncomputable def zz39_R2 (N n : Nat) (K : Ex → St → Z0) (n1 : Int) (t7 : Y4) (t8 t9 : Int) : Z0 := iter ((A_zz39).shape 4) (run (A_zz39) N (codeAt Tryz.f75 [1, 0, 1, 0, 0])) n ([.u, .val I .i n1, .u, .u, .u, .u, .u, .val (.sl I) .i t7, .val I .i t8, .val I .i t9] ++ List.replicate 11 .u) K
noncomputable abbrev zz39_z : Ex → St → Z0 := finish (A_zz39) S_zz39 Tryz.f75.results.toList
noncomputable abbrev zz39_X2 (kX : St → Z0) : Z0 := kX ([] ++ List.replicate 21 .u)
noncomputable abbrev zz39_E2 (kX : St → Z0) (kO : Nat → St → Z0) : Ex → St → Z0 := exK zz39_z 0 ((A_zz39).shape 15) kX kO
theorem zz39_step2 (N m : Nat) (kX : St → Z0) (kO : Nat → St → Z0) (n1 : Int) (t7 : Y4) (t8 t9 : Int) : zz39_R2 N (m + 1) (zz39_E2 kX kO) n1 t7 t8 t9 = zz39_b2 (zz39_R2 N m (zz39_E2 kX kO)) (zz39_X2 kX) n1 t7 t8 t9 := by kernel_rfl
theorem zz39_iter2 (N : Nat) (kX : St → Z0) (kO : Nat → St → Z0) : ∀ (n : Nat) (n1 : Int) (t7 : Y4) (t8 t9 : Int), zz39_R2 N n (zz39_E2 kX kO) n1 t7 t8 t9 = zz39_l2 N (zz39_X2 kX) n n1 t7 t8 t9
  | 0, _, _, _, _ => rfl
  | m + 1, n1, t7, t8, t9 => by
    have hrec : zz39_R2 N m (zz39_E2 kX kO) = (zz39_l2 N (zz39_X2 kX) m) := (funext fun n1 => (funext fun t7 => (funext fun t8 => (funext fun t9 => zz39_iter2 N kX kO m n1 t7 t8 t9))))
    refine (zz39_step2 N m kX kO n1 t7 t8 t9).trans ?_
    rw [hrec]
    rfl
noncomputable abbrev zz39_K2 (N : Nat) : Ex → St → Z0 := (blockK 0 (seqK ((A_zz39).shape 15) (run (A_zz39) N (codeAt Tryz.f75 [1, 1])) zz39_z))
noncomputable abbrev zz39_k2 (N : Nat) : St → Z0 := fun st' => run (A_zz39) N (codeAt Tryz.f75 [1, 1]) st' zz39_z
theorem zz39_after2 (N : Nat) : zz39_X2 (zz39_k2 N) = zz39_a2 := by kernel_rfl
theorem zz39_in2 (N : Nat) (n1 : Int) (t7 : Y4) (t8 t9 : Int) : zz39_R2 N N (zz39_K2 N) n1 t7 t8 t9 = zz39_F2 N n1 t7 t8 t9 :=
  have h : zz39_X2 (zz39_k2 N) = (zz39_a2) := zz39_after2 N
  ((iter_ex (fun st => by kernel_rfl) (fun st => by kernel_rfl)).trans (zz39_iter2 N (zz39_k2 N) (fun j st => (zz39_K2 N) (.exit j) st) N n1 t7 t8 t9)).trans (congrArg (fun k => zz39_l2 N k N n1 t7 t8 t9) h)
theorem run0_zz39 (N : Nat) (x : (S_zz39).a.den) : runF (A_zz39) N Tryz.f75 S_zz39 x = (zz39_s (zz39_R2 N N (zz39_K2 N)) x.1 x.2.1) := by kernel_rfl
theorem run_zz39 (N : Nat) (x : (S_zz39).a.den) : runF (A_zz39) N Tryz.f75 S_zz39 x = zz39 N x.1 x.2.1 := by
  refine (run0_zz39 N x).trans ?_
  rw [(funext fun n1 => (funext fun t7 => (funext fun t8 => (funext fun t9 => zz39_in2 N n1 t7 t8 t9))))]
  rfl
theorem fn_zz39 : FnOk Tryz.prog 75 := ⟨_, Tryz.func75, by kernel_rfl, by kernel_rfl⟩
theorem good_zz39 : Gx.Good Tryz.prog 75 S_zz39 := good_of_run Tryz.func75 (of_decide_eq_true (by kernel_rfl)) fun x r h => ⟨A_zz39, big, mkCfg_ok tabOk, mkCfg_sigs (show SigsOk Tryz.prog [] from trivial), (run_zz39 big x).trans h⟩
end Go.Proofs.YtlndlclemhfekaaGreat
