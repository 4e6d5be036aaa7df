import Derived.Test.YteamfbmkphjcjaaGxBox
import Derived.Test.YteamfbmkphjcjaaRows
import Derived.Test.YteamfbmkphjcjaaChecked
import Derived.KernelRfl
set_option maxRecDepth 100000
set_option linter.unusedVariables false
namespace Go.Proofs.Yteamfbmkphjcjaa
open Go Go.Gx Go.Proofs

abbrev I := Ty.int .i64
abbrev Y1 := (Option ((List (List Bool)) × ((List (List Int)) × ((List (List Int)) × Unit))))
abbrev Y2 := ((List (List Int)) × Unit)
abbrev Y7 := (Int × ((List (Int × ((List Int) × Unit))) × Unit))
abbrev Y6 := (Int × ((List Int) × Unit))
abbrev Y3 := (List (List Int))
abbrev Y4 := (List Int)
abbrev Y5 := (List (List Bool))
def tab : Tab := { es := [(22, (.sl I), (.o .i)), (25, I, .i), (27, (.pair I (.pair I .unit)), .i), (43, (.pair I (.pair (.sl I) .unit)), (.p .i (.p (.o .i) .i))), (65, (.sl .bool), (.o .i)), (84, .bool, .i)], ts := [(3, I, .i), (4, .bool, .i), (22, (.sl (.sl I)), (.o (.o .i))), (24, (.pair (.sl (.sl I)) .unit), (.p (.o (.o .i)) .i)), (25, (.sl I), (.o .i)), (27, (.sl (.pair I (.pair I .unit))), (.o .i)), (30, (.pair (.sl (.sl I)) .unit), (.p (.o (.o .i)) .i)), (43, (.sl (.pair I (.pair (.sl I) .unit))), (.o (.p .i (.p (.o .i) .i)))), (45, (.pair I (.pair (.sl (.pair I (.pair (.sl I) .unit))) .unit)), (.p .i (.p (.o (.p .i (.p (.o .i) .i))) .i))), (50, (.pair I (.pair I .unit)), .i), (52, (.opt (.pair (.sl (.sl .bool)) (.pair (.sl (.sl I)) (.pair (.sl (.sl I)) .unit)))), .i), (62, (.pair I (.pair (.sl I) .unit)), (.p .i (.p (.o .i) .i))), (65, (.sl (.sl .bool)), (.o (.o .i))), (67, (.pair (.sl (.sl .bool)) (.pair (.sl (.sl I)) (.pair (.sl (.sl I)) .unit))), (.p (.o (.o .i)) (.p (.o (.o .i)) (.p (.o (.o .i)) .i)))), (84, (.sl .bool), (.o .i))], fs := [(24, [((.sl (.sl I)), (.o (.o .i)))]), (30, [((.sl (.sl I)), (.o (.o .i)))]), (45, [(I, .i), ((.sl (.pair I (.pair (.sl I) .unit))), (.o (.p .i (.p (.o .i) .i))))]), (62, [(I, .i), ((.sl I), (.o .i))]), (67, [((.sl (.sl .bool)), (.o (.o .i))), ((.sl (.sl I)), (.o (.o .i))), ((.sl (.sl I)), (.o (.o .i)))])], ars := [(50, I, .i, 2)] }
theorem tabOk : tab.chk Try.prog = true := by kernel_rfl

/-! zz0 -/
def zz0_s (a_0 : Y4) (left_1 : Int) : Option (Int × Unit) :=
  cond (decide ((IntKind.i64.wrap (left_1 - (a_0.length : Int))) < (0 : Int)))
  (some ((-1 : Int), (())))
  (some (IntKind.i64.wrap (left_1 - (a_0.length : Int)), (())))
def zz0 (a_0 : Y4) (left_1 : Int) : Option (Int × Unit) := zz0_s a_0 left_1
def S_zz0 : Sig := { a := (.pair (.sl I) (.pair I .unit)), md := [0, 0], mf := [], m := .unit, r := I, rf := .i, f := fun x => zz0 x.1 x.2.1 }
def A_zz0 : Cfg := mkCfg tab [] []
theorem run_zz0 (N : Nat) (x : (S_zz0).a.den) : runF (A_zz0) N Try.f33 S_zz0 x = zz0 x.1 x.2.1 := by kernel_rfl
theorem fn_zz0 : FnOk Try.prog 33 := ⟨_, Try.func33, by kernel_rfl, by kernel_rfl⟩
theorem good_zz0 : Gx.Good Try.prog 33 S_zz0 := good_of_run Try.func33 (of_decide_eq_true (by kernel_rfl)) fun x r h => ⟨A_zz0, big, mkCfg_ok tabOk, mkCfg_sigs (show SigsOk Try.prog [] from trivial), (run_zz0 big x).trans h⟩

/-! zz1 -/
def zz1_b5 (rec : Y3 → Int → Int → Option (Int × Unit)) (k : Int → Option (Int × Unit)) (a0 : Y3) (left1 : Int) (i5 : Int) : Option (Int × Unit) :=
  cond (decide (i5 < (a0.length : Int)))
  ((atI a0 i5).bind fun xq1 =>
  (zz0 xq1 left1).bind fun rq2 =>
  cond (decide (rq2.1 < (0 : Int)))
  (some ((-1 : Int), (())))
  (rec a0 rq2.1 (IntKind.i64.wrap (i5 + (1 : Int)))))
  (k left1)
def zz1_a5 (left1 : Int) : Option (Int × Unit) :=
  some (left1, (()))
def zz1_s (L5 : Y3 → Int → Int → Option (Int × Unit)) (a_0 : Y3) (left_1 : Int) : Option (Int × Unit) :=
  cond (decide ((IntKind.i64.wrap (left_1 - (a_0.length : Int))) < (0 : Int)))
  (some ((-1 : Int), (())))
  (L5 a_0 (IntKind.i64.wrap (left_1 - (a_0.length : Int))) (0 : Int))
def zz1_l5 (N : Nat) (k : Int → Option (Int × Unit)) : Nat → Y3 → Int → Int → Option (Int × Unit)
  | 0, _, _, _ => none
  | m + 1, a0, left1, i5 => zz1_b5 (zz1_l5 N k m) k a0 left1 i5
def zz1_F5 (N : Nat) (a0 : Y3) (left1 : Int) (i5 : Int) : Option (Int × Unit) := zz1_l5 N (zz1_a5) N a0 left1 i5
def zz1 (N : Nat) (a_0 : Y3) (left_1 : Int) : Option (Int × Unit) := zz1_s (zz1_F5 N) a_0 left_1
def S_zz1 : Sig := { a := (.pair (.sl (.sl I)) (.pair I .unit)), md := [0, 0], mf := [], m := .unit, r := I, rf := .i, f := fun x => zz1 big x.1 x.2.1 }
def A_zz1 : Cfg := mkCfg tab [(33, S_zz0)] [(10, [.as (.sl (.sl I)) .i, .as I .i, .drop, .drop, .drop, .as I .i]), (21, [.drop, .as I .i])]
noncomputable def zz1_R5 (N n : Nat) (K : Ex → St → Option (Int × Unit)) (a0 : Y3) (left1 : Int) (i5 : Int) : Option (Int × Unit) := iter ((A_zz1).shape 10) (run (A_zz1) N (codeAt Try.f16 [1, 1, 1, 0, 1, 0, 0])) n ([.val (.sl (.sl I)) .i a0, .val I .i left1, .u, .u, .u, .val I .i i5] ++ List.replicate 21 .u) K
noncomputable abbrev zz1_z : Ex → St → Option (Int × Unit) := finish (A_zz1) S_zz1 Try.f16.results.toList
noncomputable abbrev zz1_X5 (kX : St → Option (Int × Unit)) : Int → Option (Int × Unit) := fun (left1 : Int) => kX ([.u, .val I .i left1] ++ List.replicate 25 .u)
noncomputable abbrev zz1_E5 (kX : St → Option (Int × Unit)) (kO : Nat → St → Option (Int × Unit)) : Ex → St → Option (Int × Unit) := exK zz1_z 0 ((A_zz1).shape 21) kX kO
theorem zz1_step5 (N : Nat) (m : Nat) (kX : St → Option (Int × Unit)) (kO : Nat → St → Option (Int × Unit)) (a0 : Y3) (left1 : Int) (i5 : Int) : zz1_R5 N (m + 1) (zz1_E5 kX kO) a0 left1 i5 = zz1_b5 (zz1_R5 N m (zz1_E5 kX kO)) (zz1_X5 kX) a0 left1 i5 := by kernel_rfl
theorem zz1_iter5 (N : Nat) (kX : St → Option (Int × Unit)) (kO : Nat → St → Option (Int × Unit)) : ∀ (n : Nat) (a0 : Y3) (left1 : Int) (i5 : Int), zz1_R5 N n (zz1_E5 kX kO) a0 left1 i5 = zz1_l5 N (zz1_X5 kX) n a0 left1 i5
  | 0, _, _, _ => rfl
  | m + 1, a0, left1, i5 => by
    have hrec : zz1_R5 N m (zz1_E5 kX kO) = (zz1_l5 N (zz1_X5 kX) m) := (funext fun a0 => (funext fun left1 => (funext fun i5 => zz1_iter5 N kX kO m a0 left1 i5)))
    refine (zz1_step5 N m kX kO a0 left1 i5).trans ?_
    rw [hrec]
    rfl
noncomputable abbrev zz1_K5 (N : Nat) : Ex → St → Option (Int × Unit) := (blockK 0 (seqK ((A_zz1).shape 21) (run (A_zz1) N (codeAt Try.f16 [1, 1, 1, 1])) zz1_z))
noncomputable abbrev zz1_k5 (N : Nat) : St → Option (Int × Unit) := fun st' => run (A_zz1) N (codeAt Try.f16 [1, 1, 1, 1]) st' zz1_z
theorem zz1_after5 (N : Nat) (left1 : Int) : zz1_X5 (zz1_k5 N) left1 = zz1_a5 left1 := by kernel_rfl
theorem zz1_in5 (N : Nat) (a0 : Y3) (left1 : Int) (i5 : Int) : zz1_R5 N N (zz1_K5 N) a0 left1 i5 = zz1_F5 N a0 left1 i5 :=
  have h : zz1_X5 (zz1_k5 N) = (zz1_a5) := (funext fun left1 => zz1_after5 N left1)
  ((iter_ex (fun st => by kernel_rfl) (fun st => by kernel_rfl)).trans (zz1_iter5 N (zz1_k5 N) (fun j st => (zz1_K5 N) (.exit j) st) N a0 left1 i5)).trans (congrArg (fun k => zz1_l5 N k N a0 left1 i5) h)
theorem run0_zz1 (N : Nat) (x : (S_zz1).a.den) : runF (A_zz1) N Try.f16 S_zz1 x = (zz1_s (zz1_R5 N N (zz1_K5 N)) x.1 x.2.1) := by kernel_rfl
theorem run_zz1 (N : Nat) (x : (S_zz1).a.den) : runF (A_zz1) N Try.f16 S_zz1 x = zz1 N x.1 x.2.1 := by
  refine (run0_zz1 N x).trans ?_
  rw [(funext fun a0 => (funext fun left1 => (funext fun i5 => zz1_in5 N a0 left1 i5)))]
  rfl
theorem fn_zz1 : FnOk Try.prog 16 := ⟨_, Try.func16, by kernel_rfl, by kernel_rfl⟩
theorem good_zz1 : Gx.Good Try.prog 16 S_zz1 := good_of_run Try.func16 (of_decide_eq_true (by kernel_rfl)) fun x r h => ⟨A_zz1, big, mkCfg_ok tabOk, mkCfg_sigs (show SigsOk Try.prog [(33, S_zz0)] from ⟨⟨fn_zz0, good_zz0⟩, trivial⟩), (run_zz1 big x).trans h⟩

/-! zz2 -/
def zz2_s (a_0 : Y2) (left_1 : Int) : Option (Int × Unit) :=
  (zz1 big a_0.1 left_1).bind fun rq1 =>
  cond (decide (rq1.1 < (0 : Int)))
  (some ((-1 : Int), (())))
  (some (rq1.1, (())))
def zz2 (a_0 : Y2) (left_1 : Int) : Option (Int × Unit) := zz2_s a_0 left_1
def S_zz2 : Sig := { a := (.pair (.pair (.sl (.sl I)) .unit) (.pair I .unit)), md := [0, 0], mf := [], m := .unit, r := I, rf := .i, f := fun x => zz2 x.1 x.2.1 }
def A_zz2 : Cfg := mkCfg tab [(16, S_zz1)] []
theorem run_zz2 (N : Nat) (x : (S_zz2).a.den) : runF (A_zz2) N Try.f4 S_zz2 x = zz2 x.1 x.2.1 := by kernel_rfl
theorem fn_zz2 : FnOk Try.prog 4 := ⟨_, Try.func4, by kernel_rfl, by kernel_rfl⟩
theorem good_zz2 : Gx.Good Try.prog 4 S_zz2 := good_of_run Try.func4 (of_decide_eq_true (by kernel_rfl)) fun x r h => ⟨A_zz2, big, mkCfg_ok tabOk, mkCfg_sigs (show SigsOk Try.prog [(16, S_zz1)] from ⟨⟨fn_zz1, good_zz1⟩, trivial⟩), (run_zz2 big x).trans h⟩

/-! zz3 -/
def zz3_b3 (rec : Y4 → Y4 → Int → Option (Y4 × Unit)) (k : Y4 → Option (Y4 × Unit)) (a0 : Y4) (out3 : Y4) (i4 : Int) : Option (Y4 × Unit) :=
  cond (decide (i4 < (a0.length : Int)))
  ((atI a0 i4).bind fun xq3 =>
  (atI out3 i4).bind fun _ =>
  (out3[i4.toNat]?).bind fun xq4 =>
  rec a0 (out3.set i4.toNat xq3) (IntKind.i64.wrap (i4 + (1 : Int))))
  (k out3)
def zz3_a3 (out3 : Y4) : Option (Y4 × Unit) :=
  some (out3, (()))
def zz3_s (L3 : Y4 → Y4 → Int → Option (Y4 × Unit)) (a_0 : Y4) : Option (Y4 × Unit) :=
  (mkI (0 : Int) (a_0.length : Int)).bind fun xq1 => (mkI (0 : Int) (a_0.length : Int)).bind fun xq2 => cond (decide ((a_0.length : Int) ≤ (a_0.length : Int)))
  (L3 a_0 xq2 (0 : Int))
  none
def zz3_l3 (N : Nat) (k : Y4 → Option (Y4 × Unit)) : Nat → Y4 → Y4 → Int → Option (Y4 × Unit)
  | 0, _, _, _ => none
  | m + 1, a0, out3, i4 => zz3_b3 (zz3_l3 N k m) k a0 out3 i4
def zz3_F3 (N : Nat) (a0 : Y4) (out3 : Y4) (i4 : Int) : Option (Y4 × Unit) := zz3_l3 N (zz3_a3) N a0 out3 i4
def zz3 (N : Nat) (a_0 : Y4) : Option (Y4 × Unit) := zz3_s (zz3_F3 N) a_0
def S_zz3 : Sig := { a := (.pair (.sl I) .unit), md := [0], mf := [], m := .unit, r := (.sl I), rf := (.o .i), f := fun x => zz3 big x.1 }
def A_zz3 : Cfg := mkCfg tab [] [(6, [.as (.sl I) .i, .drop, .drop, .as (.sl I) (.o .i), .as I .i]), (13, [.drop, .drop, .drop, .as (.sl I) (.o .i)])]
noncomputable def zz3_R3 (N n : Nat) (K : Ex → St → Option (Y4 × Unit)) (a0 : Y4) (out3 : Y4) (i4 : Int) : Option (Y4 × Unit) := iter ((A_zz3).shape 6) (run (A_zz3) N (codeAt Try.f7 [1, 1, 0, 1, 0, 0])) n ([.val (.sl I) .i a0, .u, .u, .val (.sl I) (.o .i) out3, .val I .i i4] ++ List.replicate 17 .u) K
noncomputable abbrev zz3_z : Ex → St → Option (Y4 × Unit) := finish (A_zz3) S_zz3 Try.f7.results.toList
noncomputable abbrev zz3_X3 (kX : St → Option (Y4 × Unit)) : Y4 → Option (Y4 × Unit) := fun (out3 : Y4) => kX ([.u, .u, .u, .val (.sl I) (.o .i) out3] ++ List.replicate 18 .u)
noncomputable abbrev zz3_E3 (kX : St → Option (Y4 × Unit)) (kO : Nat → St → Option (Y4 × Unit)) : Ex → St → Option (Y4 × Unit) := exK zz3_z 0 ((A_zz3).shape 13) kX kO
theorem zz3_step3 (N : Nat) (m : Nat) (kX : St → Option (Y4 × Unit)) (kO : Nat → St → Option (Y4 × Unit)) (a0 : Y4) (out3 : Y4) (i4 : Int) : zz3_R3 N (m + 1) (zz3_E3 kX kO) a0 out3 i4 = zz3_b3 (zz3_R3 N m (zz3_E3 kX kO)) (zz3_X3 kX) a0 out3 i4 := by kernel_rfl
theorem zz3_iter3 (N : Nat) (kX : St → Option (Y4 × Unit)) (kO : Nat → St → Option (Y4 × Unit)) : ∀ (n : Nat) (a0 : Y4) (out3 : Y4) (i4 : Int), zz3_R3 N n (zz3_E3 kX kO) a0 out3 i4 = zz3_l3 N (zz3_X3 kX) n a0 out3 i4
  | 0, _, _, _ => rfl
  | m + 1, a0, out3, i4 => by
    have hrec : zz3_R3 N m (zz3_E3 kX kO) = (zz3_l3 N (zz3_X3 kX) m) := (funext fun a0 => (funext fun out3 => (funext fun i4 => zz3_iter3 N kX kO m a0 out3 i4)))
    refine (zz3_step3 N m kX kO a0 out3 i4).trans ?_
    rw [hrec]
    rfl
noncomputable abbrev zz3_K3 (N : Nat) : Ex → St → Option (Y4 × Unit) := (blockK 0 (seqK ((A_zz3).shape 13) (run (A_zz3) N (codeAt Try.f7 [1, 1, 1])) zz3_z))
noncomputable abbrev zz3_k3 (N : Nat) : St → Option (Y4 × Unit) := fun st' => run (A_zz3) N (codeAt Try.f7 [1, 1, 1]) st' zz3_z
theorem zz3_after3 (N : Nat) (out3 : Y4) : zz3_X3 (zz3_k3 N) out3 = zz3_a3 out3 := by kernel_rfl
theorem zz3_in3 (N : Nat) (a0 : Y4) (out3 : Y4) (i4 : Int) : zz3_R3 N N (zz3_K3 N) a0 out3 i4 = zz3_F3 N a0 out3 i4 :=
  have h : zz3_X3 (zz3_k3 N) = (zz3_a3) := (funext fun out3 => zz3_after3 N out3)
  ((iter_ex (fun st => by kernel_rfl) (fun st => by kernel_rfl)).trans (zz3_iter3 N (zz3_k3 N) (fun j st => (zz3_K3 N) (.exit j) st) N a0 out3 i4)).trans (congrArg (fun k => zz3_l3 N k N a0 out3 i4) h)
theorem run0_zz3 (N : Nat) (x : (S_zz3).a.den) : runF (A_zz3) N Try.f7 S_zz3 x = (zz3_s (zz3_R3 N N (zz3_K3 N)) x.1) := by kernel_rfl
theorem run_zz3 (N : Nat) (x : (S_zz3).a.den) : runF (A_zz3) N Try.f7 S_zz3 x = zz3 N x.1 := by
  refine (run0_zz3 N x).trans ?_
  rw [(funext fun a0 => (funext fun out3 => (funext fun i4 => zz3_in3 N a0 out3 i4)))]
  rfl
theorem fn_zz3 : FnOk Try.prog 7 := ⟨_, Try.func7, by kernel_rfl, by kernel_rfl⟩
theorem good_zz3 : Gx.Good Try.prog 7 S_zz3 := good_of_run Try.func7 (of_decide_eq_true (by kernel_rfl)) fun x r h => ⟨A_zz3, big, mkCfg_ok tabOk, mkCfg_sigs (show SigsOk Try.prog [] from trivial), (run_zz3 big x).trans h⟩

/-! zz4 -/
def zz4_b3 (rec : Y3 → Y3 → Int → Option Y2) (k : Y3 → Option Y2) (a0 : Y3) (out3 : Y3) (i4 : Int) : Option Y2 :=
  cond (decide (i4 < (a0.length : Int)))
  ((atI a0 i4).bind fun xq3 =>
  (zz3 big xq3).bind fun rq4 =>
  (atI out3 i4).bind fun _ =>
  (out3[i4.toNat]?).bind fun xq5 =>
  rec a0 (out3.set i4.toNat rq4.1) (IntKind.i64.wrap (i4 + (1 : Int))))
  (k out3)
def zz4_a3 (out3 : Y3) : Option Y2 :=
  some (out3, (()))
def zz4_s (L3 : Y3 → Y3 → Int → Option Y2) (a_0 : Y3) : Option Y2 :=
  (mkI ([] : Y4) (a_0.length : Int)).bind fun xq1 => (mkI ([] : Y4) (a_0.length : Int)).bind fun xq2 => cond (decide ((a_0.length : Int) ≤ (a_0.length : Int)))
  (L3 a_0 xq2 (0 : Int))
  none
def zz4_l3 (N : Nat) (k : Y3 → Option Y2) : Nat → Y3 → Y3 → Int → Option Y2
  | 0, _, _, _ => none
  | m + 1, a0, out3, i4 => zz4_b3 (zz4_l3 N k m) k a0 out3 i4
def zz4_F3 (N : Nat) (a0 : Y3) (out3 : Y3) (i4 : Int) : Option Y2 := zz4_l3 N (zz4_a3) N a0 out3 i4
def zz4 (N : Nat) (a_0 : Y3) : Option Y2 := zz4_s (zz4_F3 N) a_0
def S_zz4 : Sig := { a := (.pair (.sl (.sl I)) .unit), md := [0], mf := [], m := .unit, r := (.sl (.sl I)), rf := (.o (.o .i)), f := fun x => zz4 big x.1 }
def A_zz4 : Cfg := mkCfg tab [(7, S_zz3)] [(6, [.as (.sl (.sl I)) .i, .drop, .drop, .as (.sl (.sl I)) (.o (.o .i)), .as I .i]), (13, [.drop, .drop, .drop, .as (.sl (.sl I)) (.o (.o .i))])]
noncomputable def zz4_R3 (N n : Nat) (K : Ex → St → Option Y2) (a0 : Y3) (out3 : Y3) (i4 : Int) : Option Y2 := iter ((A_zz4).shape 6) (run (A_zz4) N (codeAt Try.f23 [1, 1, 0, 1, 0, 0])) n ([.val (.sl (.sl I)) .i a0, .u, .u, .val (.sl (.sl I)) (.o (.o .i)) out3, .val I .i i4] ++ List.replicate 18 .u) K
noncomputable abbrev zz4_z : Ex → St → Option Y2 := finish (A_zz4) S_zz4 Try.f23.results.toList
noncomputable abbrev zz4_X3 (kX : St → Option Y2) : Y3 → Option Y2 := fun (out3 : Y3) => kX ([.u, .u, .u, .val (.sl (.sl I)) (.o (.o .i)) out3] ++ List.replicate 19 .u)
noncomputable abbrev zz4_E3 (kX : St → Option Y2) (kO : Nat → St → Option Y2) : Ex → St → Option Y2 := exK zz4_z 0 ((A_zz4).shape 13) kX kO
theorem zz4_step3 (N : Nat) (m : Nat) (kX : St → Option Y2) (kO : Nat → St → Option Y2) (a0 : Y3) (out3 : Y3) (i4 : Int) : zz4_R3 N (m + 1) (zz4_E3 kX kO) a0 out3 i4 = zz4_b3 (zz4_R3 N m (zz4_E3 kX kO)) (zz4_X3 kX) a0 out3 i4 := by kernel_rfl
theorem zz4_iter3 (N : Nat) (kX : St → Option Y2) (kO : Nat → St → Option Y2) : ∀ (n : Nat) (a0 : Y3) (out3 : Y3) (i4 : Int), zz4_R3 N n (zz4_E3 kX kO) a0 out3 i4 = zz4_l3 N (zz4_X3 kX) n a0 out3 i4
  | 0, _, _, _ => rfl
  | m + 1, a0, out3, i4 => by
    have hrec : zz4_R3 N m (zz4_E3 kX kO) = (zz4_l3 N (zz4_X3 kX) m) := (funext fun a0 => (funext fun out3 => (funext fun i4 => zz4_iter3 N kX kO m a0 out3 i4)))
    refine (zz4_step3 N m kX kO a0 out3 i4).trans ?_
    rw [hrec]
    rfl
noncomputable abbrev zz4_K3 (N : Nat) : Ex → St → Option Y2 := (blockK 0 (seqK ((A_zz4).shape 13) (run (A_zz4) N (codeAt Try.f23 [1, 1, 1])) zz4_z))
noncomputable abbrev zz4_k3 (N : Nat) : St → Option Y2 := fun st' => run (A_zz4) N (codeAt Try.f23 [1, 1, 1]) st' zz4_z
theorem zz4_after3 (N : Nat) (out3 : Y3) : zz4_X3 (zz4_k3 N) out3 = zz4_a3 out3 := by kernel_rfl
theorem zz4_in3 (N : Nat) (a0 : Y3) (out3 : Y3) (i4 : Int) : zz4_R3 N N (zz4_K3 N) a0 out3 i4 = zz4_F3 N a0 out3 i4 :=
  have h : zz4_X3 (zz4_k3 N) = (zz4_a3) := (funext fun out3 => zz4_after3 N out3)
  ((iter_ex (fun st => by kernel_rfl) (fun st => by kernel_rfl)).trans (zz4_iter3 N (zz4_k3 N) (fun j st => (zz4_K3 N) (.exit j) st) N a0 out3 i4)).trans (congrArg (fun k => zz4_l3 N k N a0 out3 i4) h)
theorem run0_zz4 (N : Nat) (x : (S_zz4).a.den) : runF (A_zz4) N Try.f23 S_zz4 x = (zz4_s (zz4_R3 N N (zz4_K3 N)) x.1) := by kernel_rfl
theorem run_zz4 (N : Nat) (x : (S_zz4).a.den) : runF (A_zz4) N Try.f23 S_zz4 x = zz4 N x.1 := by
  refine (run0_zz4 N x).trans ?_
  rw [(funext fun a0 => (funext fun out3 => (funext fun i4 => zz4_in3 N a0 out3 i4)))]
  rfl
theorem fn_zz4 : FnOk Try.prog 23 := ⟨_, Try.func23, by kernel_rfl, by kernel_rfl⟩
theorem good_zz4 : Gx.Good Try.prog 23 S_zz4 := good_of_run Try.func23 (of_decide_eq_true (by kernel_rfl)) fun x r h => ⟨A_zz4, big, mkCfg_ok tabOk, mkCfg_sigs (show SigsOk Try.prog [(7, S_zz3)] from ⟨⟨fn_zz3, good_zz3⟩, trivial⟩), (run_zz4 big x).trans h⟩

/-! zz5 -/
def zz5_s (a_0 : Y2) : Option (Y2 × Unit) :=
  (zz4 big a_0.1).bind fun rq1 =>
  some ((rq1.1, (([] : Y3), ()).2), (()))
def zz5 (a_0 : Y2) : Option (Y2 × Unit) := zz5_s a_0
def S_zz5 : Sig := { a := (.pair (.pair (.sl (.sl I)) .unit) .unit), md := [0], mf := [], m := .unit, r := (.pair (.sl (.sl I)) .unit), rf := (.p (.o (.o .i)) .i), f := fun x => zz5 x.1 }
def A_zz5 : Cfg := mkCfg tab [(23, S_zz4)] []
theorem run_zz5 (N : Nat) (x : (S_zz5).a.den) : runF (A_zz5) N Try.f6 S_zz5 x = zz5 x.1 := by kernel_rfl
theorem fn_zz5 : FnOk Try.prog 6 := ⟨_, Try.func6, by kernel_rfl, by kernel_rfl⟩
theorem good_zz5 : Gx.Good Try.prog 6 S_zz5 := good_of_run Try.func6 (of_decide_eq_true (by kernel_rfl)) fun x r h => ⟨A_zz5, big, mkCfg_ok tabOk, mkCfg_sigs (show SigsOk Try.prog [(23, S_zz4)] from ⟨⟨fn_zz4, good_zz4⟩, trivial⟩), (run_zz5 big x).trans h⟩

/-! zz6 -/
def zz6_s (x_0 : Int) (a_1 : Int) (b_2 : Int) : Option (Bool × Unit) :=
  cond (decide (a_1 ≤ x_0))
  (some (decide (x_0 ≤ b_2), (())))
  (some (false, (())))
def zz6 (x_0 : Int) (a_1 : Int) (b_2 : Int) : Option (Bool × Unit) := zz6_s x_0 a_1 b_2
def S_zz6 : Sig := { a := (.pair I (.pair I (.pair I .unit))), md := [0, 0, 0], mf := [], m := .unit, r := .bool, rf := .i, f := fun x => zz6 x.1 x.2.1 x.2.2.1 }
def A_zz6 : Cfg := mkCfg tab [] []
theorem run_zz6 (N : Nat) (x : (S_zz6).a.den) : runF (A_zz6) N Try.f48 S_zz6 x = zz6 x.1 x.2.1 x.2.2.1 := by kernel_rfl
theorem fn_zz6 : FnOk Try.prog 48 := ⟨_, Try.func48, by kernel_rfl, by kernel_rfl⟩
theorem good_zz6 : Gx.Good Try.prog 48 S_zz6 := good_of_run Try.func48 (of_decide_eq_true (by kernel_rfl)) fun x r h => ⟨A_zz6, big, mkCfg_ok tabOk, mkCfg_sigs (show SigsOk Try.prog [] from trivial), (run_zz6 big x).trans h⟩

/-! zz7 -/
def zz7_b2 (rec : Y4 → Int → Int → Int → Option (Bool × Unit)) (k : Option (Bool × Unit)) (l0 : Y4) (lo1 : Int) (hi2 : Int) (i7 : Int) : Option (Bool × Unit) :=
  cond (decide (i7 < (l0.length : Int)))
  ((atI l0 i7).bind fun xq1 =>
  (zz6 xq1 lo1 hi2).bind fun rq2 =>
  cond (!rq2.1)
  (some (false, (())))
  (cond (decide ((0 : Int) < i7))
  ((atI l0 (IntKind.i64.wrap (i7 - (1 : Int)))).bind fun xq3 =>
  (atI l0 i7).bind fun xq4 =>
  cond (decide (xq4 ≤ xq3))
  (some (false, (())))
  (rec l0 lo1 hi2 (IntKind.i64.wrap (i7 + (1 : Int)))))
  (rec l0 lo1 hi2 (IntKind.i64.wrap (i7 + (1 : Int))))))
  (k)
def zz7_a2 : Option (Bool × Unit) :=
  some (true, (()))
def zz7_s (L2 : Y4 → Int → Int → Int → Option (Bool × Unit)) (l_0 : Y4) (lo_1 : Int) (hi_2 : Int) : Option (Bool × Unit) :=
  L2 l_0 lo_1 hi_2 (0 : Int)
def zz7_l2 (N : Nat) (k : Option (Bool × Unit)) : Nat → Y4 → Int → Int → Int → Option (Bool × Unit)
  | 0, _, _, _, _ => none
  | m + 1, l0, lo1, hi2, i7 => zz7_b2 (zz7_l2 N k m) k l0 lo1 hi2 i7
def zz7_F2 (N : Nat) (l0 : Y4) (lo1 : Int) (hi2 : Int) (i7 : Int) : Option (Bool × Unit) := zz7_l2 N (zz7_a2) N l0 lo1 hi2 i7
def zz7 (N : Nat) (l_0 : Y4) (lo_1 : Int) (hi_2 : Int) : Option (Bool × Unit) := zz7_s (zz7_F2 N) l_0 lo_1 hi_2
def S_zz7 : Sig := { a := (.pair (.sl I) (.pair I (.pair I .unit))), md := [0, 0, 0], mf := [], m := .unit, r := .bool, rf := .i, f := fun x => zz7 big x.1 x.2.1 x.2.2.1 }
def A_zz7 : Cfg := mkCfg tab [(48, S_zz6)] [(4, [.as (.sl I) .i, .as I .i, .as I .i, .drop, .drop, .drop, .drop, .as I .i]), (13, [])]
noncomputable def zz7_R2 (N n : Nat) (K : Ex → St → Option (Bool × Unit)) (l0 : Y4) (lo1 : Int) (hi2 : Int) (i7 : Int) : Option (Bool × Unit) := iter ((A_zz7).shape 4) (run (A_zz7) N (codeAt Try.f58 [1, 0, 1, 0, 0])) n ([.val (.sl I) .i l0, .val I .i lo1, .val I .i hi2, .u, .u, .u, .u, .val I .i i7] ++ List.replicate 30 .u) K
noncomputable abbrev zz7_z : Ex → St → Option (Bool × Unit) := finish (A_zz7) S_zz7 Try.f58.results.toList
noncomputable abbrev zz7_X2 (kX : St → Option (Bool × Unit)) : Option (Bool × Unit) := kX ([] ++ List.replicate 38 .u)
noncomputable abbrev zz7_E2 (kX : St → Option (Bool × Unit)) (kO : Nat → St → Option (Bool × Unit)) : Ex → St → Option (Bool × Unit) := exK zz7_z 0 ((A_zz7).shape 13) kX kO
theorem zz7_step2 (N : Nat) (m : Nat) (kX : St → Option (Bool × Unit)) (kO : Nat → St → Option (Bool × Unit)) (l0 : Y4) (lo1 : Int) (hi2 : Int) (i7 : Int) : zz7_R2 N (m + 1) (zz7_E2 kX kO) l0 lo1 hi2 i7 = zz7_b2 (zz7_R2 N m (zz7_E2 kX kO)) (zz7_X2 kX) l0 lo1 hi2 i7 := by kernel_rfl
theorem zz7_iter2 (N : Nat) (kX : St → Option (Bool × Unit)) (kO : Nat → St → Option (Bool × Unit)) : ∀ (n : Nat) (l0 : Y4) (lo1 : Int) (hi2 : Int) (i7 : Int), zz7_R2 N n (zz7_E2 kX kO) l0 lo1 hi2 i7 = zz7_l2 N (zz7_X2 kX) n l0 lo1 hi2 i7
  | 0, _, _, _, _ => rfl
  | m + 1, l0, lo1, hi2, i7 => by
    have hrec : zz7_R2 N m (zz7_E2 kX kO) = (zz7_l2 N (zz7_X2 kX) m) := (funext fun l0 => (funext fun lo1 => (funext fun hi2 => (funext fun i7 => zz7_iter2 N kX kO m l0 lo1 hi2 i7))))
    refine (zz7_step2 N m kX kO l0 lo1 hi2 i7).trans ?_
    rw [hrec]
    rfl
noncomputable abbrev zz7_K2 (N : Nat) : Ex → St → Option (Bool × Unit) := (blockK 0 (seqK ((A_zz7).shape 13) (run (A_zz7) N (codeAt Try.f58 [1, 1])) zz7_z))
noncomputable abbrev zz7_k2 (N : Nat) : St → Option (Bool × Unit) := fun st' => run (A_zz7) N (codeAt Try.f58 [1, 1]) st' zz7_z
theorem zz7_after2 (N : Nat) : zz7_X2 (zz7_k2 N) = zz7_a2 := by kernel_rfl
theorem zz7_in2 (N : Nat) (l0 : Y4) (lo1 : Int) (hi2 : Int) (i7 : Int) : zz7_R2 N N (zz7_K2 N) l0 lo1 hi2 i7 = zz7_F2 N l0 lo1 hi2 i7 :=
  have h : zz7_X2 (zz7_k2 N) = (zz7_a2) := zz7_after2 N
  ((iter_ex (fun st => by kernel_rfl) (fun st => by kernel_rfl)).trans (zz7_iter2 N (zz7_k2 N) (fun j st => (zz7_K2 N) (.exit j) st) N l0 lo1 hi2 i7)).trans (congrArg (fun k => zz7_l2 N k N l0 lo1 hi2 i7) h)
theorem run0_zz7 (N : Nat) (x : (S_zz7).a.den) : runF (A_zz7) N Try.f58 S_zz7 x = (zz7_s (zz7_R2 N N (zz7_K2 N)) x.1 x.2.1 x.2.2.1) := by kernel_rfl
theorem run_zz7 (N : Nat) (x : (S_zz7).a.den) : runF (A_zz7) N Try.f58 S_zz7 x = zz7 N x.1 x.2.1 x.2.2.1 := by
  refine (run0_zz7 N x).trans ?_
  rw [(funext fun l0 => (funext fun lo1 => (funext fun hi2 => (funext fun i7 => zz7_in2 N l0 lo1 hi2 i7))))]
  rfl
theorem fn_zz7 : FnOk Try.prog 58 := ⟨_, Try.func58, by kernel_rfl, by kernel_rfl⟩
theorem good_zz7 : Gx.Good Try.prog 58 S_zz7 := good_of_run Try.func58 (of_decide_eq_true (by kernel_rfl)) fun x r h => ⟨A_zz7, big, mkCfg_ok tabOk, mkCfg_sigs (show SigsOk Try.prog [(48, S_zz6)] from ⟨⟨fn_zz6, good_zz6⟩, trivial⟩), (run_zz7 big x).trans h⟩

/-! zz8 -/
def zz8_b2 (rec : Y4 → Int → Int → Option (Bool × Unit)) (k : Option (Bool × Unit)) (l0 : Y4) (n1 : Int) (i5 : Int) : Option (Bool × Unit) :=
  cond (decide (i5 < (l0.length : Int)))
  ((atI l0 i5).bind fun xq1 =>
  cond (decide (xq1 = n1))
  (some (true, (())))
  (rec l0 n1 (IntKind.i64.wrap (i5 + (1 : Int)))))
  (k)
def zz8_a2 : Option (Bool × Unit) :=
  some (false, (()))
def zz8_s (L2 : Y4 → Int → Int → Option (Bool × Unit)) (l_0 : Y4) (n_1 : Int) : Option (Bool × Unit) :=
  L2 l_0 n_1 (0 : Int)
def zz8_l2 (N : Nat) (k : Option (Bool × Unit)) : Nat → Y4 → Int → Int → Option (Bool × Unit)
  | 0, _, _, _ => none
  | m + 1, l0, n1, i5 => zz8_b2 (zz8_l2 N k m) k l0 n1 i5
def zz8_F2 (N : Nat) (l0 : Y4) (n1 : Int) (i5 : Int) : Option (Bool × Unit) := zz8_l2 N (zz8_a2) N l0 n1 i5
def zz8 (N : Nat) (l_0 : Y4) (n_1 : Int) : Option (Bool × Unit) := zz8_s (zz8_F2 N) l_0 n_1
def S_zz8 : Sig := { a := (.pair (.sl I) (.pair I .unit)), md := [0, 0], mf := [], m := .unit, r := .bool, rf := .i, f := fun x => zz8 big x.1 x.2.1 }
def A_zz8 : Cfg := mkCfg tab [] [(4, [.as (.sl I) .i, .as I .i, .drop, .drop, .drop, .as I .i]), (13, [])]
noncomputable def zz8_R2 (N n : Nat) (K : Ex → St → Option (Bool × Unit)) (l0 : Y4) (n1 : Int) (i5 : Int) : Option (Bool × Unit) := iter ((A_zz8).shape 4) (run (A_zz8) N (codeAt Try.f53 [1, 0, 1, 0, 0])) n ([.val (.sl I) .i l0, .val I .i n1, .u, .u, .u, .val I .i i5] ++ List.replicate 12 .u) K
noncomputable abbrev zz8_z : Ex → St → Option (Bool × Unit) := finish (A_zz8) S_zz8 Try.f53.results.toList
noncomputable abbrev zz8_X2 (kX : St → Option (Bool × Unit)) : Option (Bool × Unit) := kX ([] ++ List.replicate 18 .u)
noncomputable abbrev zz8_E2 (kX : St → Option (Bool × Unit)) (kO : Nat → St → Option (Bool × Unit)) : Ex → St → Option (Bool × Unit) := exK zz8_z 0 ((A_zz8).shape 13) kX kO
theorem zz8_step2 (N : Nat) (m : Nat) (kX : St → Option (Bool × Unit)) (kO : Nat → St → Option (Bool × Unit)) (l0 : Y4) (n1 : Int) (i5 : Int) : zz8_R2 N (m + 1) (zz8_E2 kX kO) l0 n1 i5 = zz8_b2 (zz8_R2 N m (zz8_E2 kX kO)) (zz8_X2 kX) l0 n1 i5 := by kernel_rfl
theorem zz8_iter2 (N : Nat) (kX : St → Option (Bool × Unit)) (kO : Nat → St → Option (Bool × Unit)) : ∀ (n : Nat) (l0 : Y4) (n1 : Int) (i5 : Int), zz8_R2 N n (zz8_E2 kX kO) l0 n1 i5 = zz8_l2 N (zz8_X2 kX) n l0 n1 i5
  | 0, _, _, _ => rfl
  | m + 1, l0, n1, i5 => by
    have hrec : zz8_R2 N m (zz8_E2 kX kO) = (zz8_l2 N (zz8_X2 kX) m) := (funext fun l0 => (funext fun n1 => (funext fun i5 => zz8_iter2 N kX kO m l0 n1 i5)))
    refine (zz8_step2 N m kX kO l0 n1 i5).trans ?_
    rw [hrec]
    rfl
noncomputable abbrev zz8_K2 (N : Nat) : Ex → St → Option (Bool × Unit) := (blockK 0 (seqK ((A_zz8).shape 13) (run (A_zz8) N (codeAt Try.f53 [1, 1])) zz8_z))
noncomputable abbrev zz8_k2 (N : Nat) : St → Option (Bool × Unit) := fun st' => run (A_zz8) N (codeAt Try.f53 [1, 1]) st' zz8_z
theorem zz8_after2 (N : Nat) : zz8_X2 (zz8_k2 N) = zz8_a2 := by kernel_rfl
theorem zz8_in2 (N : Nat) (l0 : Y4) (n1 : Int) (i5 : Int) : zz8_R2 N N (zz8_K2 N) l0 n1 i5 = zz8_F2 N l0 n1 i5 :=
  have h : zz8_X2 (zz8_k2 N) = (zz8_a2) := zz8_after2 N
  ((iter_ex (fun st => by kernel_rfl) (fun st => by kernel_rfl)).trans (zz8_iter2 N (zz8_k2 N) (fun j st => (zz8_K2 N) (.exit j) st) N l0 n1 i5)).trans (congrArg (fun k => zz8_l2 N k N l0 n1 i5) h)
theorem run0_zz8 (N : Nat) (x : (S_zz8).a.den) : runF (A_zz8) N Try.f53 S_zz8 x = (zz8_s (zz8_R2 N N (zz8_K2 N)) x.1 x.2.1) := by kernel_rfl
theorem run_zz8 (N : Nat) (x : (S_zz8).a.den) : runF (A_zz8) N Try.f53 S_zz8 x = zz8 N x.1 x.2.1 := by
  refine (run0_zz8 N x).trans ?_
  rw [(funext fun l0 => (funext fun n1 => (funext fun i5 => zz8_in2 N l0 n1 i5)))]
  rfl
theorem fn_zz8 : FnOk Try.prog 53 := ⟨_, Try.func53, by kernel_rfl, by kernel_rfl⟩
theorem good_zz8 : Gx.Good Try.prog 53 S_zz8 := good_of_run Try.func53 (of_decide_eq_true (by kernel_rfl)) fun x r h => ⟨A_zz8, big, mkCfg_ok tabOk, mkCfg_sigs (show SigsOk Try.prog [] from trivial), (run_zz8 big x).trans h⟩

/-! zz9 -/
def zz9_b2 (rec : Y4 → Y4 → Int → Option (Bool × Unit)) (k : Option (Bool × Unit)) (x0 : Y4) (y1 : Y4) (i5 : Int) : Option (Bool × Unit) :=
  cond (decide (i5 < (x0.length : Int)))
  ((atI x0 i5).bind fun xq1 =>
  (zz8 big y1 xq1).bind fun rq2 =>
  cond (!rq2.1)
  (some (false, (())))
  (rec x0 y1 (IntKind.i64.wrap (i5 + (1 : Int)))))
  (k)
def zz9_a2 : Option (Bool × Unit) :=
  some (true, (()))
def zz9_s (L2 : Y4 → Y4 → Int → Option (Bool × Unit)) (x_0 : Y4) (y_1 : Y4) : Option (Bool × Unit) :=
  L2 x_0 y_1 (0 : Int)
def zz9_l2 (N : Nat) (k : Option (Bool × Unit)) : Nat → Y4 → Y4 → Int → Option (Bool × Unit)
  | 0, _, _, _ => none
  | m + 1, x0, y1, i5 => zz9_b2 (zz9_l2 N k m) k x0 y1 i5
def zz9_F2 (N : Nat) (x0 : Y4) (y1 : Y4) (i5 : Int) : Option (Bool × Unit) := zz9_l2 N (zz9_a2) N x0 y1 i5
def zz9 (N : Nat) (x_0 : Y4) (y_1 : Y4) : Option (Bool × Unit) := zz9_s (zz9_F2 N) x_0 y_1
def S_zz9 : Sig := { a := (.pair (.sl I) (.pair (.sl I) .unit)), md := [0, 0], mf := [], m := .unit, r := .bool, rf := .i, f := fun x => zz9 big x.1 x.2.1 }
def A_zz9 : Cfg := mkCfg tab [(53, S_zz8)] [(4, [.as (.sl I) .i, .as (.sl I) .i, .drop, .drop, .drop, .as I .i]), (13, [])]
noncomputable def zz9_R2 (N n : Nat) (K : Ex → St → Option (Bool × Unit)) (x0 : Y4) (y1 : Y4) (i5 : Int) : Option (Bool × Unit) := iter ((A_zz9).shape 4) (run (A_zz9) N (codeAt Try.f39 [1, 0, 1, 0, 0])) n ([.val (.sl I) .i x0, .val (.sl I) .i y1, .u, .u, .u, .val I .i i5] ++ List.replicate 13 .u) K
noncomputable abbrev zz9_z : Ex → St → Option (Bool × Unit) := finish (A_zz9) S_zz9 Try.f39.results.toList
noncomputable abbrev zz9_X2 (kX : St → Option (Bool × Unit)) : Option (Bool × Unit) := kX ([] ++ List.replicate 19 .u)
noncomputable abbrev zz9_E2 (kX : St → Option (Bool × Unit)) (kO : Nat → St → Option (Bool × Unit)) : Ex → St → Option (Bool × Unit) := exK zz9_z 0 ((A_zz9).shape 13) kX kO
theorem zz9_step2 (N : Nat) (m : Nat) (kX : St → Option (Bool × Unit)) (kO : Nat → St → Option (Bool × Unit)) (x0 : Y4) (y1 : Y4) (i5 : Int) : zz9_R2 N (m + 1) (zz9_E2 kX kO) x0 y1 i5 = zz9_b2 (zz9_R2 N m (zz9_E2 kX kO)) (zz9_X2 kX) x0 y1 i5 := by kernel_rfl
theorem zz9_iter2 (N : Nat) (kX : St → Option (Bool × Unit)) (kO : Nat → St → Option (Bool × Unit)) : ∀ (n : Nat) (x0 : Y4) (y1 : Y4) (i5 : Int), zz9_R2 N n (zz9_E2 kX kO) x0 y1 i5 = zz9_l2 N (zz9_X2 kX) n x0 y1 i5
  | 0, _, _, _ => rfl
  | m + 1, x0, y1, i5 => by
    have hrec : zz9_R2 N m (zz9_E2 kX kO) = (zz9_l2 N (zz9_X2 kX) m) := (funext fun x0 => (funext fun y1 => (funext fun i5 => zz9_iter2 N kX kO m x0 y1 i5)))
    refine (zz9_step2 N m kX kO x0 y1 i5).trans ?_
    rw [hrec]
    rfl
noncomputable abbrev zz9_K2 (N : Nat) : Ex → St → Option (Bool × Unit) := (blockK 0 (seqK ((A_zz9).shape 13) (run (A_zz9) N (codeAt Try.f39 [1, 1])) zz9_z))
noncomputable abbrev zz9_k2 (N : Nat) : St → Option (Bool × Unit) := fun st' => run (A_zz9) N (codeAt Try.f39 [1, 1]) st' zz9_z
theorem zz9_after2 (N : Nat) : zz9_X2 (zz9_k2 N) = zz9_a2 := by kernel_rfl
theorem zz9_in2 (N : Nat) (x0 : Y4) (y1 : Y4) (i5 : Int) : zz9_R2 N N (zz9_K2 N) x0 y1 i5 = zz9_F2 N x0 y1 i5 :=
  have h : zz9_X2 (zz9_k2 N) = (zz9_a2) := zz9_after2 N
  ((iter_ex (fun st => by kernel_rfl) (fun st => by kernel_rfl)).trans (zz9_iter2 N (zz9_k2 N) (fun j st => (zz9_K2 N) (.exit j) st) N x0 y1 i5)).trans (congrArg (fun k => zz9_l2 N k N x0 y1 i5) h)
theorem run0_zz9 (N : Nat) (x : (S_zz9).a.den) : runF (A_zz9) N Try.f39 S_zz9 x = (zz9_s (zz9_R2 N N (zz9_K2 N)) x.1 x.2.1) := by kernel_rfl
theorem run_zz9 (N : Nat) (x : (S_zz9).a.den) : runF (A_zz9) N Try.f39 S_zz9 x = zz9 N x.1 x.2.1 := by
  refine (run0_zz9 N x).trans ?_
  rw [(funext fun x0 => (funext fun y1 => (funext fun i5 => zz9_in2 N x0 y1 i5)))]
  rfl
theorem fn_zz9 : FnOk Try.prog 39 := ⟨_, Try.func39, by kernel_rfl, by kernel_rfl⟩
theorem good_zz9 : Gx.Good Try.prog 39 S_zz9 := good_of_run Try.func39 (of_decide_eq_true (by kernel_rfl)) fun x r h => ⟨A_zz9, big, mkCfg_ok tabOk, mkCfg_sigs (show SigsOk Try.prog [(53, S_zz8)] from ⟨⟨fn_zz8, good_zz8⟩, trivial⟩), (run_zz9 big x).trans h⟩

/-! zz10 -/
def zz10_b13 (rec : Y2 → Int → Int → Int → Option (Bool × Unit)) (k : Y2 → Int → Int → Option (Bool × Unit)) (p1 : Y2) (n3 : Int) (x5 : Int) (i6 : Int) : Option (Bool × Unit) :=
  (atI p1.1 x5).bind fun xq5 =>
  cond (decide (i6 < (xq5.length : Int)))
  ((atI p1.1 x5).bind fun xq6 =>
  (atI xq6 i6).bind fun xq7 =>
  cond (decide (xq7 ≠ x5))
  ((atI p1.1 xq7).bind fun xq8 =>
  (zz8 big xq8 x5).bind fun rq9 =>
  cond rq9.1
  (some (false, (())))
  ((atI p1.1 xq7).bind fun xq10 =>
  (atI p1.1 x5).bind fun xq11 =>
  (zz9 big xq10 xq11).bind fun rq12 =>
  cond (!rq12.1)
  (some (false, (())))
  (rec p1 n3 x5 (IntKind.i64.wrap (i6 + (1 : Int))))))
  ((atI p1.1 xq7).bind fun xq13 =>
  (atI p1.1 x5).bind fun xq14 =>
  (zz9 big xq13 xq14).bind fun rq15 =>
  cond (!rq15.1)
  (some (false, (())))
  (rec p1 n3 x5 (IntKind.i64.wrap (i6 + (1 : Int))))))
  (k p1 n3 x5)
def zz10_a13 (rec : Y2 → Int → Int → Option (Bool × Unit)) (p1 : Y2) (n3 : Int) (x5 : Int) : Option (Bool × Unit) :=
  rec p1 n3 (IntKind.i64.wrap (x5 + (1 : Int)))
def zz10_b10 (L13 : Y2 → Int → Int → Int → Option (Bool × Unit)) (k : Option (Bool × Unit)) (p1 : Y2) (n3 : Int) (x5 : Int) : Option (Bool × Unit) :=
  cond (decide (x5 < n3))
  (L13 p1 n3 x5 (0 : Int))
  (k)
def zz10_a10 : Option (Bool × Unit) :=
  some (true, (()))
def zz10_b5 (rec : Y2 → Int → Int → Option (Bool × Unit)) (k : Y2 → Int → Option (Bool × Unit)) (p1 : Y2) (n3 : Int) (x4 : Int) : Option (Bool × Unit) :=
  cond (decide (x4 < n3))
  ((atI p1.1 x4).bind fun xq1 =>
  (zz7 big xq1 (0 : Int) (IntKind.i64.wrap (n3 - (1 : Int)))).bind fun rq2 =>
  cond (!rq2.1)
  (some (false, (())))
  ((atI p1.1 x4).bind fun xq3 =>
  (zz8 big xq3 x4).bind fun rq4 =>
  cond (!rq4.1)
  (some (false, (())))
  (rec p1 n3 (IntKind.i64.wrap (x4 + (1 : Int))))))
  (k p1 n3)
def zz10_a5 (L10 : Y2 → Int → Int → Option (Bool × Unit)) (p1 : Y2) (n3 : Int) : Option (Bool × Unit) :=
  L10 p1 n3 (0 : Int)
def zz10_s (L5 : Y2 → Int → Int → Option (Bool × Unit)) (p_0 : Y2) : Option (Bool × Unit) :=
  cond (decide ((10 : Int) < (p_0.1.length : Int)))
  (some (false, (())))
  (L5 p_0 (p_0.1.length : Int) (0 : Int))
def zz10_l13 (N : Nat) (k : Y2 → Int → Int → Option (Bool × Unit)) : Nat → Y2 → Int → Int → Int → Option (Bool × Unit)
  | 0, _, _, _, _ => none
  | m + 1, p1, n3, x5, i6 => zz10_b13 (zz10_l13 N k m) k p1 n3 x5 i6
def zz10_F13 (N : Nat) (rec : Y2 → Int → Int → Option (Bool × Unit)) (k : Option (Bool × Unit)) (p1 : Y2) (n3 : Int) (x5 : Int) (i6 : Int) : Option (Bool × Unit) := zz10_l13 N (zz10_a13 rec) N p1 n3 x5 i6
def zz10_l5 (N : Nat) (k : Y2 → Int → Option (Bool × Unit)) : Nat → Y2 → Int → Int → Option (Bool × Unit)
  | 0, _, _, _ => none
  | m + 1, p1, n3, x4 => zz10_b5 (zz10_l5 N k m) k p1 n3 x4
def zz10_l10 (N : Nat) (k : Option (Bool × Unit)) : Nat → Y2 → Int → Int → Option (Bool × Unit)
  | 0, _, _, _ => none
  | m + 1, p1, n3, x5 => zz10_b10 (zz10_F13 N (zz10_l10 N k m) k) k p1 n3 x5
def zz10_F10 (N : Nat) (p1 : Y2) (n3 : Int) (x5 : Int) : Option (Bool × Unit) := zz10_l10 N (zz10_a10) N p1 n3 x5
def zz10_F5 (N : Nat) (p1 : Y2) (n3 : Int) (x4 : Int) : Option (Bool × Unit) := zz10_l5 N (zz10_a5 (zz10_F10 N)) N p1 n3 x4
def zz10 (N : Nat) (p_0 : Y2) : Option (Bool × Unit) := zz10_s (zz10_F5 N) p_0
def S_zz10 : Sig := { a := (.pair (.pair (.sl (.sl I)) .unit) .unit), md := [0], mf := [], m := .unit, r := .bool, rf := .i, f := fun x => zz10 big x.1 }
def A_zz10 : Cfg := mkCfg tab [(58, S_zz7), (53, S_zz8), (39, S_zz9)] [(10, [.drop, .as (.ptr (.pair (.sl (.sl I)) .unit)) (.o .i), .drop, .as I .i, .as I .i]), (19, [.drop, .as (.ptr (.pair (.sl (.sl I)) .unit)) (.o .i), .drop, .as I .i]), (20, [.drop, .as (.ptr (.pair (.sl (.sl I)) .unit)) (.o .i), .drop, .as I .i, .drop, .as I .i]), (26, [.drop, .as (.ptr (.pair (.sl (.sl I)) .unit)) (.o .i), .drop, .as I .i, .drop, .as I .i, .as I .i]), (37, []), (23, [.drop, .as (.ptr (.pair (.sl (.sl I)) .unit)) (.o .i), .drop, .as I .i, .drop, .as I .i])]
noncomputable def zz10_R5 (N n : Nat) (K : Ex → St → Option (Bool × Unit)) (p1 : Y2) (n3 : Int) (x4 : Int) : Option (Bool × Unit) := iter ((A_zz10).shape 10) (run (A_zz10) N (codeAt Try.f47 [1, 1, 1, 0, 1, 0, 0])) n ([.u, .val (.ptr (.pair (.sl (.sl I)) .unit)) (.o .i) p1, .u, .val I .i n3, .val I .i x4] ++ List.replicate 81 .u) K
noncomputable def zz10_R10 (N n : Nat) (K : Ex → St → Option (Bool × Unit)) (p1 : Y2) (n3 : Int) (x5 : Int) : Option (Bool × Unit) := iter ((A_zz10).shape 20) (run (A_zz10) N (codeAt Try.f47 [1, 1, 1, 1, 0, 1, 0, 0])) n ([.u, .val (.ptr (.pair (.sl (.sl I)) .unit)) (.o .i) p1, .u, .val I .i n3, .u, .val I .i x5] ++ List.replicate 80 .u) K
noncomputable def zz10_R13 (N n : Nat) (K : Ex → St → Option (Bool × Unit)) (p1 : Y2) (n3 : Int) (x5 : Int) (i6 : Int) : Option (Bool × Unit) := iter ((A_zz10).shape 26) (run (A_zz10) N (codeAt Try.f47 [1, 1, 1, 1, 0, 1, 0, 0, 1, 0, 0, 1, 0, 0])) n ([.u, .val (.ptr (.pair (.sl (.sl I)) .unit)) (.o .i) p1, .u, .val I .i n3, .u, .val I .i x5, .val I .i i6] ++ List.replicate 79 .u) K
noncomputable abbrev zz10_z : Ex → St → Option (Bool × Unit) := finish (A_zz10) S_zz10 Try.f47.results.toList
noncomputable abbrev zz10_X5 (kX : St → Option (Bool × Unit)) : Y2 → Int → Option (Bool × Unit) := fun (p1 : Y2) (n3 : Int) => kX ([.u, .val (.ptr (.pair (.sl (.sl I)) .unit)) (.o .i) p1, .u, .val I .i n3] ++ List.replicate 82 .u)
noncomputable abbrev zz10_E5 (kX : St → Option (Bool × Unit)) (kO : Nat → St → Option (Bool × Unit)) : Ex → St → Option (Bool × Unit) := exK zz10_z 0 ((A_zz10).shape 19) kX kO
noncomputable abbrev zz10_X10 (kX : St → Option (Bool × Unit)) : Option (Bool × Unit) := kX ([] ++ List.replicate 86 .u)
noncomputable abbrev zz10_E10 (kX : St → Option (Bool × Unit)) (kO : Nat → St → Option (Bool × Unit)) : Ex → St → Option (Bool × Unit) := exK zz10_z 2 ((A_zz10).shape 37) kX kO
noncomputable abbrev zz10_X13 (kX : St → Option (Bool × Unit)) : Y2 → Int → Int → Option (Bool × Unit) := fun (p1 : Y2) (n3 : Int) (x5 : Int) => kX ([.u, .val (.ptr (.pair (.sl (.sl I)) .unit)) (.o .i) p1, .u, .val I .i n3, .u, .val I .i x5] ++ List.replicate 80 .u)
noncomputable abbrev zz10_E13 (kX : St → Option (Bool × Unit)) (kO : Nat → St → Option (Bool × Unit)) : Ex → St → Option (Bool × Unit) := exK zz10_z 4 ((A_zz10).shape 23) kX kO
theorem zz10_step5 (N : Nat) (m : Nat) (kX : St → Option (Bool × Unit)) (kO : Nat → St → Option (Bool × Unit)) (p1 : Y2) (n3 : Int) (x4 : Int) : zz10_R5 N (m + 1) (zz10_E5 kX kO) p1 n3 x4 = zz10_b5 (zz10_R5 N m (zz10_E5 kX kO)) (zz10_X5 kX) p1 n3 x4 := by kernel_rfl
theorem zz10_iter5 (N : Nat) (kX : St → Option (Bool × Unit)) (kO : Nat → St → Option (Bool × Unit)) : ∀ (n : Nat) (p1 : Y2) (n3 : Int) (x4 : Int), zz10_R5 N n (zz10_E5 kX kO) p1 n3 x4 = zz10_l5 N (zz10_X5 kX) n p1 n3 x4
  | 0, _, _, _ => rfl
  | m + 1, p1, n3, x4 => by
    have hrec : zz10_R5 N m (zz10_E5 kX kO) = (zz10_l5 N (zz10_X5 kX) m) := (funext fun p1 => (funext fun n3 => (funext fun x4 => zz10_iter5 N kX kO m p1 n3 x4)))
    refine (zz10_step5 N m kX kO p1 n3 x4).trans ?_
    rw [hrec]
    rfl
noncomputable abbrev zz10_K5 (N : Nat) : Ex → St → Option (Bool × Unit) := (blockK 0 (seqK ((A_zz10).shape 19) (run (A_zz10) N (codeAt Try.f47 [1, 1, 1, 1])) zz10_z))
theorem zz10_step13 (N : Nat) (m : Nat) (kX : St → Option (Bool × Unit)) (kO : Nat → St → Option (Bool × Unit)) (p1 : Y2) (n3 : Int) (x5 : Int) (i6 : Int) : zz10_R13 N (m + 1) (zz10_E13 kX kO) p1 n3 x5 i6 = zz10_b13 (zz10_R13 N m (zz10_E13 kX kO)) (zz10_X13 kX) p1 n3 x5 i6 := by kernel_rfl
theorem zz10_iter13 (N : Nat) (kX : St → Option (Bool × Unit)) (kO : Nat → St → Option (Bool × Unit)) : ∀ (n : Nat) (p1 : Y2) (n3 : Int) (x5 : Int) (i6 : Int), zz10_R13 N n (zz10_E13 kX kO) p1 n3 x5 i6 = zz10_l13 N (zz10_X13 kX) n p1 n3 x5 i6
  | 0, _, _, _, _ => rfl
  | m + 1, p1, n3, x5, i6 => by
    have hrec : zz10_R13 N m (zz10_E13 kX kO) = (zz10_l13 N (zz10_X13 kX) m) := (funext fun p1 => (funext fun n3 => (funext fun x5 => (funext fun i6 => zz10_iter13 N kX kO m p1 n3 x5 i6))))
    refine (zz10_step13 N m kX kO p1 n3 x5 i6).trans ?_
    rw [hrec]
    rfl
noncomputable abbrev zz10_K13 (N : Nat) (m : Nat) (kX : St → Option (Bool × Unit)) (kO : Nat → St → Option (Bool × Unit)) : Ex → St → Option (Bool × Unit) := (blockK 4 (blockK 3 (seqK ((A_zz10).shape 23) (run (A_zz10) N (codeAt Try.f47 [1, 1, 1, 1, 0, 1, 0, 0, 1, 1])) (iterK ((A_zz10).shape 20) (run (A_zz10) N (codeAt Try.f47 [1, 1, 1, 1, 0, 1, 0, 0])) m (zz10_E10 kX kO)))))
noncomputable abbrev zz10_k13 (N : Nat) (m : Nat) (kX : St → Option (Bool × Unit)) (kO : Nat → St → Option (Bool × Unit)) : St → Option (Bool × Unit) := fun st' => run (A_zz10) N (codeAt Try.f47 [1, 1, 1, 1, 0, 1, 0, 0, 1, 1]) st' (iterK ((A_zz10).shape 20) (run (A_zz10) N (codeAt Try.f47 [1, 1, 1, 1, 0, 1, 0, 0])) m (zz10_E10 kX kO))
theorem zz10_after13 (N : Nat) (m : Nat) (kX : St → Option (Bool × Unit)) (kO : Nat → St → Option (Bool × Unit)) (p1 : Y2) (n3 : Int) (x5 : Int) : zz10_X13 (zz10_k13 N m kX kO) p1 n3 x5 = zz10_a13 (zz10_R10 N m (zz10_E10 kX kO)) p1 n3 x5 := by kernel_rfl
theorem zz10_in13 (N : Nat) (m : Nat) (kX : St → Option (Bool × Unit)) (kO : Nat → St → Option (Bool × Unit)) (recF : Y2 → Int → Int → Option (Bool × Unit)) (hrec : zz10_R10 N m (zz10_E10 kX kO) = recF) (p1 : Y2) (n3 : Int) (x5 : Int) (i6 : Int) : zz10_R13 N N (zz10_K13 N m kX kO) p1 n3 x5 i6 = zz10_F13 N recF (zz10_X10 kX) p1 n3 x5 i6 :=
  have h : zz10_X13 (zz10_k13 N m kX kO) = (zz10_a13 recF) := (funext fun p1 => (funext fun n3 => (funext fun x5 => (zz10_after13 N m kX kO p1 n3 x5).trans (by rw [hrec]))))
  ((iter_ex (fun st => by kernel_rfl) (fun st => by kernel_rfl)).trans (zz10_iter13 N (zz10_k13 N m kX kO) (fun j st => (zz10_K13 N m kX kO) (.exit j) st) N p1 n3 x5 i6)).trans (congrArg (fun k => zz10_l13 N k N p1 n3 x5 i6) h)
theorem zz10_step10 (N : Nat) (m : Nat) (kX : St → Option (Bool × Unit)) (kO : Nat → St → Option (Bool × Unit)) (p1 : Y2) (n3 : Int) (x5 : Int) : zz10_R10 N (m + 1) (zz10_E10 kX kO) p1 n3 x5 = zz10_b10 (zz10_R13 N N (zz10_K13 N m kX kO)) (zz10_X10 kX) p1 n3 x5 := by kernel_rfl
theorem zz10_iter10 (N : Nat) (kX : St → Option (Bool × Unit)) (kO : Nat → St → Option (Bool × Unit)) : ∀ (n : Nat) (p1 : Y2) (n3 : Int) (x5 : Int), zz10_R10 N n (zz10_E10 kX kO) p1 n3 x5 = zz10_l10 N (zz10_X10 kX) n p1 n3 x5
  | 0, _, _, _ => rfl
  | m + 1, p1, n3, x5 => by
    have hrec : zz10_R10 N m (zz10_E10 kX kO) = (zz10_l10 N (zz10_X10 kX) m) := (funext fun p1 => (funext fun n3 => (funext fun x5 => zz10_iter10 N kX kO m p1 n3 x5)))
    refine (zz10_step10 N m kX kO p1 n3 x5).trans ?_
    rw [(funext fun p1 => (funext fun n3 => (funext fun x5 => (funext fun i6 => zz10_in13 N m kX kO (zz10_l10 N (zz10_X10 kX) m) hrec p1 n3 x5 i6))))]
    rfl
noncomputable abbrev zz10_K10 (N : Nat) : Ex → St → Option (Bool × Unit) := (blockK 2 (seqK ((A_zz10).shape 37) (run (A_zz10) N (codeAt Try.f47 [1, 1, 1, 1, 1])) zz10_z))
noncomputable abbrev zz10_k10 (N : Nat) : St → Option (Bool × Unit) := fun st' => run (A_zz10) N (codeAt Try.f47 [1, 1, 1, 1, 1]) st' zz10_z
theorem zz10_after10 (N : Nat) : zz10_X10 (zz10_k10 N) = zz10_a10 := by kernel_rfl
theorem zz10_in10 (N : Nat) (p1 : Y2) (n3 : Int) (x5 : Int) : zz10_R10 N N (zz10_K10 N) p1 n3 x5 = zz10_F10 N p1 n3 x5 :=
  have h : zz10_X10 (zz10_k10 N) = (zz10_a10) := zz10_after10 N
  ((iter_ex (fun st => by kernel_rfl) (fun st => by kernel_rfl)).trans (zz10_iter10 N (zz10_k10 N) (fun j st => (zz10_K10 N) (.exit j) st) N p1 n3 x5)).trans (congrArg (fun k => zz10_l10 N k N p1 n3 x5) h)
noncomputable abbrev zz10_k5 (N : Nat) : St → Option (Bool × Unit) := fun st' => run (A_zz10) N (codeAt Try.f47 [1, 1, 1, 1]) st' zz10_z
theorem zz10_after5 (N : Nat) (p1 : Y2) (n3 : Int) : zz10_X5 (zz10_k5 N) p1 n3 = zz10_a5 (zz10_R10 N N (zz10_K10 N)) p1 n3 := by kernel_rfl
theorem zz10_in5 (N : Nat) (p1 : Y2) (n3 : Int) (x4 : Int) : zz10_R5 N N (zz10_K5 N) p1 n3 x4 = zz10_F5 N p1 n3 x4 :=
  have h : zz10_X5 (zz10_k5 N) = (zz10_a5 (zz10_F10 N)) := (funext fun p1 => (funext fun n3 => (zz10_after5 N p1 n3).trans (by rw [(funext fun p1 => (funext fun n3 => (funext fun x5 => zz10_in10 N p1 n3 x5)))])))
  ((iter_ex (fun st => by kernel_rfl) (fun st => by kernel_rfl)).trans (zz10_iter5 N (zz10_k5 N) (fun j st => (zz10_K5 N) (.exit j) st) N p1 n3 x4)).trans (congrArg (fun k => zz10_l5 N k N p1 n3 x4) h)
theorem run0_zz10 (N : Nat) (x : (S_zz10).a.den) : runF (A_zz10) N Try.f47 S_zz10 x = (zz10_s (zz10_R5 N N (zz10_K5 N)) x.1) := by kernel_rfl
theorem run_zz10 (N : Nat) (x : (S_zz10).a.den) : runF (A_zz10) N Try.f47 S_zz10 x = zz10 N x.1 := by
  refine (run0_zz10 N x).trans ?_
  rw [(funext fun p1 => (funext fun n3 => (funext fun x4 => zz10_in5 N p1 n3 x4)))]
  rfl
theorem fn_zz10 : FnOk Try.prog 47 := ⟨_, Try.func47, by kernel_rfl, by kernel_rfl⟩
theorem good_zz10 : Gx.Good Try.prog 47 S_zz10 := good_of_run Try.func47 (of_decide_eq_true (by kernel_rfl)) fun x r h => ⟨A_zz10, big, mkCfg_ok tabOk, mkCfg_sigs (show SigsOk Try.prog [(58, S_zz7), (53, S_zz8), (39, S_zz9)] from ⟨⟨fn_zz7, good_zz7⟩, ⟨fn_zz8, good_zz8⟩, ⟨fn_zz9, good_zz9⟩, trivial⟩), (run_zz10 big x).trans h⟩

/-! zz11 -/
def zz11_s (p_0 : Y2) (x_1 : Int) (y_2 : Int) : Option (Bool × Unit) :=
  (atI p_0.1 y_2).bind fun xq1 =>
  (zz8 big xq1 x_1).bind fun rq2 =>
  some (rq2.1, (()))
def zz11 (p_0 : Y2) (x_1 : Int) (y_2 : Int) : Option (Bool × Unit) := zz11_s p_0 x_1 y_2
def S_zz11 : Sig := { a := (.pair (.pair (.sl (.sl I)) .unit) (.pair I (.pair I .unit))), md := [0, 0, 0], mf := [], m := .unit, r := .bool, rf := .i, f := fun x => zz11 x.1 x.2.1 x.2.2.1 }
def A_zz11 : Cfg := mkCfg tab [(53, S_zz8)] []
theorem run_zz11 (N : Nat) (x : (S_zz11).a.den) : runF (A_zz11) N Try.f38 S_zz11 x = zz11 x.1 x.2.1 x.2.2.1 := by kernel_rfl
theorem fn_zz11 : FnOk Try.prog 38 := ⟨_, Try.func38, by kernel_rfl, by kernel_rfl⟩
theorem good_zz11 : Gx.Good Try.prog 38 S_zz11 := good_of_run Try.func38 (of_decide_eq_true (by kernel_rfl)) fun x r h => ⟨A_zz11, big, mkCfg_ok tabOk, mkCfg_sigs (show SigsOk Try.prog [(53, S_zz8)] from ⟨⟨fn_zz8, good_zz8⟩, trivial⟩), (run_zz11 big x).trans h⟩

/-! zz12 -/
def zz12_b7 (rec : Y2 → Y2 → Y2 → Int → Y4 → Int → Option (Y2 × Unit)) (k : Y2 → Y2 → Y2 → Int → Y4 → Option (Y2 × Unit)) (p1 : Y2) (t2 : Y2) (out3 : Y2) (x4 : Int) (below5 : Y4) (y6 : Int) : Option (Y2 × Unit) :=
  cond (decide (y6 < (p1.1.length : Int)))
  ((zz11 p1 x4 y6).bind fun rq1 =>
  cond rq1.1
  ((appI below5 [y6]).bind fun xq2 =>
  rec p1 t2 out3 x4 xq2 (IntKind.i64.wrap (y6 + (1 : Int))))
  (rec p1 t2 out3 x4 below5 (IntKind.i64.wrap (y6 + (1 : Int)))))
  (k p1 t2 out3 x4 below5)
def zz12_a7 (rec : Y2 → Y2 → Y2 → Int → Option (Y2 × Unit)) (p1 : Y2) (t2 : Y2) (out3 : Y2) (x4 : Int) (below5 : Y4) : Option (Y2 × Unit) :=
  (appI out3.1 [below5]).bind fun xq3 =>
  rec p1 t2 (xq3, ((), out3.2).2) (IntKind.i64.wrap (x4 + (1 : Int)))
def zz12_b3 (L7 : Y2 → Y2 → Y2 → Int → Y4 → Int → Option (Y2 × Unit)) (k : Y2 → Y2 → Option (Y2 × Unit)) (p1 : Y2) (t2 : Y2) (out3 : Y2) (x4 : Int) : Option (Y2 × Unit) :=
  cond (decide (x4 < (p1.1.length : Int)))
  (L7 p1 t2 out3 x4 [] (0 : Int))
  (k t2 out3)
def zz12_a3 (t2 : Y2) (out3 : Y2) : Option (Y2 × Unit) :=
  some (out3, (()))
def zz12_s (L3 : Y2 → Y2 → Y2 → Int → Option (Y2 × Unit)) (p_0 : Y2) : Option (Y2 × Unit) :=
  L3 p_0 (([] : Y3), ()) ([], ()) (0 : Int)
def zz12_l7 (N : Nat) (k : Y2 → Y2 → Y2 → Int → Y4 → Option (Y2 × Unit)) : Nat → Y2 → Y2 → Y2 → Int → Y4 → Int → Option (Y2 × Unit)
  | 0, _, _, _, _, _, _ => none
  | m + 1, p1, t2, out3, x4, below5, y6 => zz12_b7 (zz12_l7 N k m) k p1 t2 out3 x4 below5 y6
def zz12_F7 (N : Nat) (rec : Y2 → Y2 → Y2 → Int → Option (Y2 × Unit)) (k : Y2 → Y2 → Option (Y2 × Unit)) (p1 : Y2) (t2 : Y2) (out3 : Y2) (x4 : Int) (below5 : Y4) (y6 : Int) : Option (Y2 × Unit) := zz12_l7 N (zz12_a7 rec) N p1 t2 out3 x4 below5 y6
def zz12_l3 (N : Nat) (k : Y2 → Y2 → Option (Y2 × Unit)) : Nat → Y2 → Y2 → Y2 → Int → Option (Y2 × Unit)
  | 0, _, _, _, _ => none
  | m + 1, p1, t2, out3, x4 => zz12_b3 (zz12_F7 N (zz12_l3 N k m) k) k p1 t2 out3 x4
def zz12_F3 (N : Nat) (p1 : Y2) (t2 : Y2) (out3 : Y2) (x4 : Int) : Option (Y2 × Unit) := zz12_l3 N (zz12_a3) N p1 t2 out3 x4
def zz12 (N : Nat) (p_0 : Y2) : Option (Y2 × Unit) := zz12_s (zz12_F3 N) p_0
def S_zz12 : Sig := { a := (.pair (.pair (.sl (.sl I)) .unit) .unit), md := [0], mf := [], m := .unit, r := (.pair (.sl (.sl I)) .unit), rf := (.p (.o (.o .i)) .i), f := fun x => zz12 big x.1 }
def A_zz12 : Cfg := mkCfg tab [(38, S_zz11)] [(6, [.drop, .as (.ptr (.pair (.sl (.sl I)) .unit)) (.o .i), .as (.ptr (.pair (.sl (.sl I)) .unit)) (.o (.p (.o (.o .i)) .i)), .as (.ptr (.pair (.sl (.sl I)) .unit)) (.o (.p (.o (.o .i)) .i)), .as I .i]), (14, [.drop, .as (.ptr (.pair (.sl (.sl I)) .unit)) (.o .i), .as (.ptr (.pair (.sl (.sl I)) .unit)) (.o (.p (.o (.o .i)) .i)), .as (.ptr (.pair (.sl (.sl I)) .unit)) (.o (.p (.o (.o .i)) .i)), .as I .i, .as (.sl I) (.o .i), .as I .i]), (25, [.drop, .drop, .as (.ptr (.pair (.sl (.sl I)) .unit)) (.o (.p (.o (.o .i)) .i)), .as (.ptr (.pair (.sl (.sl I)) .unit)) (.o (.p (.o (.o .i)) .i))]), (23, [.drop, .as (.ptr (.pair (.sl (.sl I)) .unit)) (.o .i), .as (.ptr (.pair (.sl (.sl I)) .unit)) (.o (.p (.o (.o .i)) .i)), .as (.ptr (.pair (.sl (.sl I)) .unit)) (.o (.p (.o (.o .i)) .i)), .as I .i, .as (.sl I) (.o .i)])]
noncomputable def zz12_R3 (N n : Nat) (K : Ex → St → Option (Y2 × Unit)) (p1 : Y2) (t2 : Y2) (out3 : Y2) (x4 : Int) : Option (Y2 × Unit) := iter ((A_zz12).shape 6) (run (A_zz12) N (codeAt Try.f22 [1, 1, 0, 1, 0, 0])) n ([.u, .val (.ptr (.pair (.sl (.sl I)) .unit)) (.o .i) p1, .val (.ptr (.pair (.sl (.sl I)) .unit)) (.o (.p (.o (.o .i)) .i)) t2, .val (.ptr (.pair (.sl (.sl I)) .unit)) (.o (.p (.o (.o .i)) .i)) out3, .val I .i x4] ++ List.replicate 34 .u) K
noncomputable def zz12_R7 (N n : Nat) (K : Ex → St → Option (Y2 × Unit)) (p1 : Y2) (t2 : Y2) (out3 : Y2) (x4 : Int) (below5 : Y4) (y6 : Int) : Option (Y2 × Unit) := iter ((A_zz12).shape 14) (run (A_zz12) N (codeAt Try.f22 [1, 1, 0, 1, 0, 0, 1, 0, 0, 1, 0, 1, 0, 0])) n ([.u, .val (.ptr (.pair (.sl (.sl I)) .unit)) (.o .i) p1, .val (.ptr (.pair (.sl (.sl I)) .unit)) (.o (.p (.o (.o .i)) .i)) t2, .val (.ptr (.pair (.sl (.sl I)) .unit)) (.o (.p (.o (.o .i)) .i)) out3, .val I .i x4, .val (.sl I) (.o .i) below5, .val I .i y6] ++ List.replicate 32 .u) K
noncomputable abbrev zz12_z : Ex → St → Option (Y2 × Unit) := finish (A_zz12) S_zz12 Try.f22.results.toList
noncomputable abbrev zz12_X3 (kX : St → Option (Y2 × Unit)) : Y2 → Y2 → Option (Y2 × Unit) := fun (t2 : Y2) (out3 : Y2) => kX ([.u, .u, .val (.ptr (.pair (.sl (.sl I)) .unit)) (.o (.p (.o (.o .i)) .i)) t2, .val (.ptr (.pair (.sl (.sl I)) .unit)) (.o (.p (.o (.o .i)) .i)) out3] ++ List.replicate 35 .u)
noncomputable abbrev zz12_E3 (kX : St → Option (Y2 × Unit)) (kO : Nat → St → Option (Y2 × Unit)) : Ex → St → Option (Y2 × Unit) := exK zz12_z 0 ((A_zz12).shape 25) kX kO
noncomputable abbrev zz12_X7 (kX : St → Option (Y2 × Unit)) : Y2 → Y2 → Y2 → Int → Y4 → Option (Y2 × Unit) := fun (p1 : Y2) (t2 : Y2) (out3 : Y2) (x4 : Int) (below5 : Y4) => kX ([.u, .val (.ptr (.pair (.sl (.sl I)) .unit)) (.o .i) p1, .val (.ptr (.pair (.sl (.sl I)) .unit)) (.o (.p (.o (.o .i)) .i)) t2, .val (.ptr (.pair (.sl (.sl I)) .unit)) (.o (.p (.o (.o .i)) .i)) out3, .val I .i x4, .val (.sl I) (.o .i) below5] ++ List.replicate 33 .u)
noncomputable abbrev zz12_E7 (kX : St → Option (Y2 × Unit)) (kO : Nat → St → Option (Y2 × Unit)) : Ex → St → Option (Y2 × Unit) := exK zz12_z 2 ((A_zz12).shape 23) kX kO
theorem zz12_step7 (N : Nat) (m : Nat) (kX : St → Option (Y2 × Unit)) (kO : Nat → St → Option (Y2 × Unit)) (p1 : Y2) (t2 : Y2) (out3 : Y2) (x4 : Int) (below5 : Y4) (y6 : Int) : zz12_R7 N (m + 1) (zz12_E7 kX kO) p1 t2 out3 x4 below5 y6 = zz12_b7 (zz12_R7 N m (zz12_E7 kX kO)) (zz12_X7 kX) p1 t2 out3 x4 below5 y6 := by kernel_rfl
theorem zz12_iter7 (N : Nat) (kX : St → Option (Y2 × Unit)) (kO : Nat → St → Option (Y2 × Unit)) : ∀ (n : Nat) (p1 : Y2) (t2 : Y2) (out3 : Y2) (x4 : Int) (below5 : Y4) (y6 : Int), zz12_R7 N n (zz12_E7 kX kO) p1 t2 out3 x4 below5 y6 = zz12_l7 N (zz12_X7 kX) n p1 t2 out3 x4 below5 y6
  | 0, _, _, _, _, _, _ => rfl
  | m + 1, p1, t2, out3, x4, below5, y6 => by
    have hrec : zz12_R7 N m (zz12_E7 kX kO) = (zz12_l7 N (zz12_X7 kX) m) := (funext fun p1 => (funext fun t2 => (funext fun out3 => (funext fun x4 => (funext fun below5 => (funext fun y6 => zz12_iter7 N kX kO m p1 t2 out3 x4 below5 y6))))))
    refine (zz12_step7 N m kX kO p1 t2 out3 x4 below5 y6).trans ?_
    rw [hrec]
    rfl
noncomputable abbrev zz12_K7 (N : Nat) (m : Nat) (kX : St → Option (Y2 × Unit)) (kO : Nat → St → Option (Y2 × Unit)) : Ex → St → Option (Y2 × Unit) := (blockK 2 (seqK ((A_zz12).shape 23) (run (A_zz12) N (codeAt Try.f22 [1, 1, 0, 1, 0, 0, 1, 0, 0, 1, 1])) (blockK 1 (seqK ((A_zz12).shape 9) (run (A_zz12) N (codeAt Try.f22 [1, 1, 0, 1, 0, 0, 1, 1])) (iterK ((A_zz12).shape 6) (run (A_zz12) N (codeAt Try.f22 [1, 1, 0, 1, 0, 0])) m (zz12_E3 kX kO))))))
noncomputable abbrev zz12_k7 (N : Nat) (m : Nat) (kX : St → Option (Y2 × Unit)) (kO : Nat → St → Option (Y2 × Unit)) : St → Option (Y2 × Unit) := fun st' => run (A_zz12) N (codeAt Try.f22 [1, 1, 0, 1, 0, 0, 1, 0, 0, 1, 1]) st' (blockK 1 (seqK ((A_zz12).shape 9) (run (A_zz12) N (codeAt Try.f22 [1, 1, 0, 1, 0, 0, 1, 1])) (iterK ((A_zz12).shape 6) (run (A_zz12) N (codeAt Try.f22 [1, 1, 0, 1, 0, 0])) m (zz12_E3 kX kO))))
theorem zz12_after7 (N : Nat) (m : Nat) (kX : St → Option (Y2 × Unit)) (kO : Nat → St → Option (Y2 × Unit)) (p1 : Y2) (t2 : Y2) (out3 : Y2) (x4 : Int) (below5 : Y4) : zz12_X7 (zz12_k7 N m kX kO) p1 t2 out3 x4 below5 = zz12_a7 (zz12_R3 N m (zz12_E3 kX kO)) p1 t2 out3 x4 below5 := by kernel_rfl
theorem zz12_in7 (N : Nat) (m : Nat) (kX : St → Option (Y2 × Unit)) (kO : Nat → St → Option (Y2 × Unit)) (recF : Y2 → Y2 → Y2 → Int → Option (Y2 × Unit)) (hrec : zz12_R3 N m (zz12_E3 kX kO) = recF) (p1 : Y2) (t2 : Y2) (out3 : Y2) (x4 : Int) (below5 : Y4) (y6 : Int) : zz12_R7 N N (zz12_K7 N m kX kO) p1 t2 out3 x4 below5 y6 = zz12_F7 N recF (zz12_X3 kX) p1 t2 out3 x4 below5 y6 :=
  have h : zz12_X7 (zz12_k7 N m kX kO) = (zz12_a7 recF) := (funext fun p1 => (funext fun t2 => (funext fun out3 => (funext fun x4 => (funext fun below5 => (zz12_after7 N m kX kO p1 t2 out3 x4 below5).trans (by rw [hrec]))))))
  ((iter_ex (fun st => by kernel_rfl) (fun st => by kernel_rfl)).trans (zz12_iter7 N (zz12_k7 N m kX kO) (fun j st => (zz12_K7 N m kX kO) (.exit j) st) N p1 t2 out3 x4 below5 y6)).trans (congrArg (fun k => zz12_l7 N k N p1 t2 out3 x4 below5 y6) h)
theorem zz12_step3 (N : Nat) (m : Nat) (kX : St → Option (Y2 × Unit)) (kO : Nat → St → Option (Y2 × Unit)) (p1 : Y2) (t2 : Y2) (out3 : Y2) (x4 : Int) : zz12_R3 N (m + 1) (zz12_E3 kX kO) p1 t2 out3 x4 = zz12_b3 (zz12_R7 N N (zz12_K7 N m kX kO)) (zz12_X3 kX) p1 t2 out3 x4 := by kernel_rfl
theorem zz12_iter3 (N : Nat) (kX : St → Option (Y2 × Unit)) (kO : Nat → St → Option (Y2 × Unit)) : ∀ (n : Nat) (p1 : Y2) (t2 : Y2) (out3 : Y2) (x4 : Int), zz12_R3 N n (zz12_E3 kX kO) p1 t2 out3 x4 = zz12_l3 N (zz12_X3 kX) n p1 t2 out3 x4
  | 0, _, _, _, _ => rfl
  | m + 1, p1, t2, out3, x4 => by
    have hrec : zz12_R3 N m (zz12_E3 kX kO) = (zz12_l3 N (zz12_X3 kX) m) := (funext fun p1 => (funext fun t2 => (funext fun out3 => (funext fun x4 => zz12_iter3 N kX kO m p1 t2 out3 x4))))
    refine (zz12_step3 N m kX kO p1 t2 out3 x4).trans ?_
    rw [(funext fun p1 => (funext fun t2 => (funext fun out3 => (funext fun x4 => (funext fun below5 => (funext fun y6 => zz12_in7 N m kX kO (zz12_l3 N (zz12_X3 kX) m) hrec p1 t2 out3 x4 below5 y6))))))]
    rfl
noncomputable abbrev zz12_K3 (N : Nat) : Ex → St → Option (Y2 × Unit) := (blockK 0 (seqK ((A_zz12).shape 25) (run (A_zz12) N (codeAt Try.f22 [1, 1, 1])) zz12_z))
noncomputable abbrev zz12_k3 (N : Nat) : St → Option (Y2 × Unit) := fun st' => run (A_zz12) N (codeAt Try.f22 [1, 1, 1]) st' zz12_z
theorem zz12_after3 (N : Nat) (t2 : Y2) (out3 : Y2) : zz12_X3 (zz12_k3 N) t2 out3 = zz12_a3 t2 out3 := by kernel_rfl
theorem zz12_in3 (N : Nat) (p1 : Y2) (t2 : Y2) (out3 : Y2) (x4 : Int) : zz12_R3 N N (zz12_K3 N) p1 t2 out3 x4 = zz12_F3 N p1 t2 out3 x4 :=
  have h : zz12_X3 (zz12_k3 N) = (zz12_a3) := (funext fun t2 => (funext fun out3 => zz12_after3 N t2 out3))
  ((iter_ex (fun st => by kernel_rfl) (fun st => by kernel_rfl)).trans (zz12_iter3 N (zz12_k3 N) (fun j st => (zz12_K3 N) (.exit j) st) N p1 t2 out3 x4)).trans (congrArg (fun k => zz12_l3 N k N p1 t2 out3 x4) h)
theorem run0_zz12 (N : Nat) (x : (S_zz12).a.den) : runF (A_zz12) N Try.f22 S_zz12 x = (zz12_s (zz12_R3 N N (zz12_K3 N)) x.1) := by kernel_rfl
theorem run_zz12 (N : Nat) (x : (S_zz12).a.den) : runF (A_zz12) N Try.f22 S_zz12 x = zz12 N x.1 := by
  refine (run0_zz12 N x).trans ?_
  rw [(funext fun p1 => (funext fun t2 => (funext fun out3 => (funext fun x4 => zz12_in3 N p1 t2 out3 x4))))]
  rfl
theorem fn_zz12 : FnOk Try.prog 22 := ⟨_, Try.func22, by kernel_rfl, by kernel_rfl⟩
theorem good_zz12 : Gx.Good Try.prog 22 S_zz12 := good_of_run Try.func22 (of_decide_eq_true (by kernel_rfl)) fun x r h => ⟨A_zz12, big, mkCfg_ok tabOk, mkCfg_sigs (show SigsOk Try.prog [(38, S_zz11)] from ⟨⟨fn_zz11, good_zz11⟩, trivial⟩), (run_zz12 big x).trans h⟩

/-! zz13 -/
def zz13_b13 (rec : Y2 → Y4 → Int → Option (Int × Unit)) (k : Option (Int × Unit)) (p2 : Y2) (low5 : Y4) (i9 : Int) : Option (Int × Unit) :=
  cond (decide (i9 < (low5.length : Int)))
  ((atI low5 i9).bind fun _ =>
  (low5[i9.toNat]?).bind fun xq4 =>
  (atI p2.1 xq4).bind fun xq5 =>
  (zz9 big low5 xq5).bind fun rq6 =>
  cond rq6.1
  ((atI low5 i9).bind fun _ =>
  (low5[i9.toNat]?).bind fun xq7 =>
  some (xq7, (())))
  (rec p2 low5 (IntKind.i64.wrap (i9 + (1 : Int)))))
  (k)
def zz13_a13 : Option (Int × Unit) :=
  some ((-1 : Int), (()))
def zz13_b7 (rec : Y4 → Y2 → Y4 → Int → Bool → Int → Option (Int × Unit)) (k : Y4 → Y2 → Y4 → Int → Bool → Option (Int × Unit)) (some1 : Y4) (p2 : Y2) (low5 : Y4) (z6 : Int) (all7 : Bool) (i8 : Int) : Option (Int × Unit) :=
  cond (decide (i8 < (some1.length : Int)))
  (cond all7
  ((atI some1 i8).bind fun xq1 =>
  (zz11 p2 z6 xq1).bind fun rq2 =>
  rec some1 p2 low5 z6 rq2.1 (IntKind.i64.wrap (i8 + (1 : Int))))
  (rec some1 p2 low5 z6 false (IntKind.i64.wrap (i8 + (1 : Int)))))
  (k some1 p2 low5 z6 all7)
def zz13_a7 (rec : Y4 → Y2 → Y4 → Int → Option (Int × Unit)) (some1 : Y4) (p2 : Y2) (low5 : Y4) (z6 : Int) (all7 : Bool) : Option (Int × Unit) :=
  cond all7
  ((appI low5 [z6]).bind fun xq3 =>
  rec some1 p2 xq3 (IntKind.i64.wrap (z6 + (1 : Int))))
  (rec some1 p2 low5 (IntKind.i64.wrap (z6 + (1 : Int))))
def zz13_b3 (L7 : Y4 → Y2 → Y4 → Int → Bool → Int → Option (Int × Unit)) (k : Y2 → Y4 → Option (Int × Unit)) (some1 : Y4) (p2 : Y2) (low5 : Y4) (z6 : Int) : Option (Int × Unit) :=
  cond (decide (z6 < (p2.1.length : Int)))
  (L7 some1 p2 low5 z6 true (0 : Int))
  (k p2 low5)
def zz13_a3 (L13 : Y2 → Y4 → Int → Option (Int × Unit)) (p2 : Y2) (low5 : Y4) : Option (Int × Unit) :=
  L13 p2 low5 (0 : Int)
def zz13_s (L3 : Y4 → Y2 → Y4 → Int → Option (Int × Unit)) (p_0 : Y2) (some_1 : Y4) : Option (Int × Unit) :=
  L3 some_1 p_0 [] (0 : Int)
def zz13_l7 (N : Nat) (k : Y4 → Y2 → Y4 → Int → Bool → Option (Int × Unit)) : Nat → Y4 → Y2 → Y4 → Int → Bool → Int → Option (Int × Unit)
  | 0, _, _, _, _, _, _ => none
  | m + 1, some1, p2, low5, z6, all7, i8 => zz13_b7 (zz13_l7 N k m) k some1 p2 low5 z6 all7 i8
def zz13_F7 (N : Nat) (rec : Y4 → Y2 → Y4 → Int → Option (Int × Unit)) (k : Y2 → Y4 → Option (Int × Unit)) (some1 : Y4) (p2 : Y2) (low5 : Y4) (z6 : Int) (all7 : Bool) (i8 : Int) : Option (Int × Unit) := zz13_l7 N (zz13_a7 rec) N some1 p2 low5 z6 all7 i8
def zz13_l3 (N : Nat) (k : Y2 → Y4 → Option (Int × Unit)) : Nat → Y4 → Y2 → Y4 → Int → Option (Int × Unit)
  | 0, _, _, _, _ => none
  | m + 1, some1, p2, low5, z6 => zz13_b3 (zz13_F7 N (zz13_l3 N k m) k) k some1 p2 low5 z6
def zz13_l13 (N : Nat) (k : Option (Int × Unit)) : Nat → Y2 → Y4 → Int → Option (Int × Unit)
  | 0, _, _, _ => none
  | m + 1, p2, low5, i9 => zz13_b13 (zz13_l13 N k m) k p2 low5 i9
def zz13_F13 (N : Nat) (p2 : Y2) (low5 : Y4) (i9 : Int) : Option (Int × Unit) := zz13_l13 N (zz13_a13) N p2 low5 i9
def zz13_F3 (N : Nat) (some1 : Y4) (p2 : Y2) (low5 : Y4) (z6 : Int) : Option (Int × Unit) := zz13_l3 N (zz13_a3 (zz13_F13 N)) N some1 p2 low5 z6
def zz13 (N : Nat) (p_0 : Y2) (some_1 : Y4) : Option (Int × Unit) := zz13_s (zz13_F3 N) p_0 some_1
def S_zz13 : Sig := { a := (.pair (.pair (.sl (.sl I)) .unit) (.pair (.sl I) .unit)), md := [0, 0], mf := [], m := .unit, r := I, rf := .i, f := fun x => zz13 big x.1 x.2.1 }
def A_zz13 : Cfg := mkCfg tab [(38, S_zz11), (39, S_zz9)] [(6, [.drop, .as (.sl I) .i, .as (.ptr (.pair (.sl (.sl I)) .unit)) (.o .i), .drop, .drop, .as (.sl I) (.o .i), .as I .i]), (14, [.drop, .as (.sl I) .i, .as (.ptr (.pair (.sl (.sl I)) .unit)) (.o .i), .drop, .drop, .as (.sl I) (.o .i), .as I .i, .as .bool .i, .as I .i]), (25, [.drop, .drop, .as (.ptr (.pair (.sl (.sl I)) .unit)) (.o .i), .drop, .drop, .as (.sl I) (.o .i)]), (26, [.drop, .drop, .as (.ptr (.pair (.sl (.sl I)) .unit)) (.o .i), .drop, .drop, .as (.sl I) (.o .i), .drop, .drop, .drop, .as I .i]), (21, [.drop, .as (.sl I) .i, .as (.ptr (.pair (.sl (.sl I)) .unit)) (.o .i), .drop, .drop, .as (.sl I) (.o .i), .as I .i, .as .bool .i]), (35, [])]
noncomputable def zz13_R3 (N n : Nat) (K : Ex → St → Option (Int × Unit)) (some1 : Y4) (p2 : Y2) (low5 : Y4) (z6 : Int) : Option (Int × Unit) := iter ((A_zz13).shape 6) (run (A_zz13) N (codeAt Try.f21 [1, 1, 0, 1, 0, 0])) n ([.u, .val (.sl I) .i some1, .val (.ptr (.pair (.sl (.sl I)) .unit)) (.o .i) p2, .u, .u, .val (.sl I) (.o .i) low5, .val I .i z6] ++ List.replicate 52 .u) K
noncomputable def zz13_R7 (N n : Nat) (K : Ex → St → Option (Int × Unit)) (some1 : Y4) (p2 : Y2) (low5 : Y4) (z6 : Int) (all7 : Bool) (i8 : Int) : Option (Int × Unit) := iter ((A_zz13).shape 14) (run (A_zz13) N (codeAt Try.f21 [1, 1, 0, 1, 0, 0, 1, 0, 0, 1, 0, 1, 0, 0])) n ([.u, .val (.sl I) .i some1, .val (.ptr (.pair (.sl (.sl I)) .unit)) (.o .i) p2, .u, .u, .val (.sl I) (.o .i) low5, .val I .i z6, .val .bool .i all7, .val I .i i8] ++ List.replicate 50 .u) K
noncomputable def zz13_R13 (N n : Nat) (K : Ex → St → Option (Int × Unit)) (p2 : Y2) (low5 : Y4) (i9 : Int) : Option (Int × Unit) := iter ((A_zz13).shape 26) (run (A_zz13) N (codeAt Try.f21 [1, 1, 1, 0, 1, 0, 0])) n ([.u, .u, .val (.ptr (.pair (.sl (.sl I)) .unit)) (.o .i) p2, .u, .u, .val (.sl I) (.o .i) low5, .u, .u, .u, .val I .i i9] ++ List.replicate 49 .u) K
noncomputable abbrev zz13_z : Ex → St → Option (Int × Unit) := finish (A_zz13) S_zz13 Try.f21.results.toList
noncomputable abbrev zz13_X3 (kX : St → Option (Int × Unit)) : Y2 → Y4 → Option (Int × Unit) := fun (p2 : Y2) (low5 : Y4) => kX ([.u, .u, .val (.ptr (.pair (.sl (.sl I)) .unit)) (.o .i) p2, .u, .u, .val (.sl I) (.o .i) low5] ++ List.replicate 53 .u)
noncomputable abbrev zz13_E3 (kX : St → Option (Int × Unit)) (kO : Nat → St → Option (Int × Unit)) : Ex → St → Option (Int × Unit) := exK zz13_z 0 ((A_zz13).shape 25) kX kO
noncomputable abbrev zz13_X7 (kX : St → Option (Int × Unit)) : Y4 → Y2 → Y4 → Int → Bool → Option (Int × Unit) := fun (some1 : Y4) (p2 : Y2) (low5 : Y4) (z6 : Int) (all7 : Bool) => kX ([.u, .val (.sl I) .i some1, .val (.ptr (.pair (.sl (.sl I)) .unit)) (.o .i) p2, .u, .u, .val (.sl I) (.o .i) low5, .val I .i z6, .val .bool .i all7] ++ List.replicate 51 .u)
noncomputable abbrev zz13_E7 (kX : St → Option (Int × Unit)) (kO : Nat → St → Option (Int × Unit)) : Ex → St → Option (Int × Unit) := exK zz13_z 2 ((A_zz13).shape 21) kX kO
noncomputable abbrev zz13_X13 (kX : St → Option (Int × Unit)) : Option (Int × Unit) := kX ([] ++ List.replicate 59 .u)
noncomputable abbrev zz13_E13 (kX : St → Option (Int × Unit)) (kO : Nat → St → Option (Int × Unit)) : Ex → St → Option (Int × Unit) := exK zz13_z 4 ((A_zz13).shape 35) kX kO
theorem zz13_step7 (N : Nat) (m : Nat) (kX : St → Option (Int × Unit)) (kO : Nat → St → Option (Int × Unit)) (some1 : Y4) (p2 : Y2) (low5 : Y4) (z6 : Int) (all7 : Bool) (i8 : Int) : zz13_R7 N (m + 1) (zz13_E7 kX kO) some1 p2 low5 z6 all7 i8 = zz13_b7 (zz13_R7 N m (zz13_E7 kX kO)) (zz13_X7 kX) some1 p2 low5 z6 all7 i8 := by kernel_rfl
theorem zz13_iter7 (N : Nat) (kX : St → Option (Int × Unit)) (kO : Nat → St → Option (Int × Unit)) : ∀ (n : Nat) (some1 : Y4) (p2 : Y2) (low5 : Y4) (z6 : Int) (all7 : Bool) (i8 : Int), zz13_R7 N n (zz13_E7 kX kO) some1 p2 low5 z6 all7 i8 = zz13_l7 N (zz13_X7 kX) n some1 p2 low5 z6 all7 i8
  | 0, _, _, _, _, _, _ => rfl
  | m + 1, some1, p2, low5, z6, all7, i8 => by
    have hrec : zz13_R7 N m (zz13_E7 kX kO) = (zz13_l7 N (zz13_X7 kX) m) := (funext fun some1 => (funext fun p2 => (funext fun low5 => (funext fun z6 => (funext fun all7 => (funext fun i8 => zz13_iter7 N kX kO m some1 p2 low5 z6 all7 i8))))))
    refine (zz13_step7 N m kX kO some1 p2 low5 z6 all7 i8).trans ?_
    rw [hrec]
    rfl
noncomputable abbrev zz13_K7 (N : Nat) (m : Nat) (kX : St → Option (Int × Unit)) (kO : Nat → St → Option (Int × Unit)) : Ex → St → Option (Int × Unit) := (blockK 2 (seqK ((A_zz13).shape 21) (run (A_zz13) N (codeAt Try.f21 [1, 1, 0, 1, 0, 0, 1, 0, 0, 1, 1])) (blockK 1 (seqK ((A_zz13).shape 9) (run (A_zz13) N (codeAt Try.f21 [1, 1, 0, 1, 0, 0, 1, 1])) (iterK ((A_zz13).shape 6) (run (A_zz13) N (codeAt Try.f21 [1, 1, 0, 1, 0, 0])) m (zz13_E3 kX kO))))))
noncomputable abbrev zz13_k7 (N : Nat) (m : Nat) (kX : St → Option (Int × Unit)) (kO : Nat → St → Option (Int × Unit)) : St → Option (Int × Unit) := fun st' => run (A_zz13) N (codeAt Try.f21 [1, 1, 0, 1, 0, 0, 1, 0, 0, 1, 1]) st' (blockK 1 (seqK ((A_zz13).shape 9) (run (A_zz13) N (codeAt Try.f21 [1, 1, 0, 1, 0, 0, 1, 1])) (iterK ((A_zz13).shape 6) (run (A_zz13) N (codeAt Try.f21 [1, 1, 0, 1, 0, 0])) m (zz13_E3 kX kO))))
theorem zz13_after7 (N : Nat) (m : Nat) (kX : St → Option (Int × Unit)) (kO : Nat → St → Option (Int × Unit)) (some1 : Y4) (p2 : Y2) (low5 : Y4) (z6 : Int) (all7 : Bool) : zz13_X7 (zz13_k7 N m kX kO) some1 p2 low5 z6 all7 = zz13_a7 (zz13_R3 N m (zz13_E3 kX kO)) some1 p2 low5 z6 all7 := by kernel_rfl
theorem zz13_in7 (N : Nat) (m : Nat) (kX : St → Option (Int × Unit)) (kO : Nat → St → Option (Int × Unit)) (recF : Y4 → Y2 → Y4 → Int → Option (Int × Unit)) (hrec : zz13_R3 N m (zz13_E3 kX kO) = recF) (some1 : Y4) (p2 : Y2) (low5 : Y4) (z6 : Int) (all7 : Bool) (i8 : Int) : zz13_R7 N N (zz13_K7 N m kX kO) some1 p2 low5 z6 all7 i8 = zz13_F7 N recF (zz13_X3 kX) some1 p2 low5 z6 all7 i8 :=
  have h : zz13_X7 (zz13_k7 N m kX kO) = (zz13_a7 recF) := (funext fun some1 => (funext fun p2 => (funext fun low5 => (funext fun z6 => (funext fun all7 => (zz13_after7 N m kX kO some1 p2 low5 z6 all7).trans (by rw [hrec]))))))
  ((iter_ex (fun st => by kernel_rfl) (fun st => by kernel_rfl)).trans (zz13_iter7 N (zz13_k7 N m kX kO) (fun j st => (zz13_K7 N m kX kO) (.exit j) st) N some1 p2 low5 z6 all7 i8)).trans (congrArg (fun k => zz13_l7 N k N some1 p2 low5 z6 all7 i8) h)
theorem zz13_step3 (N : Nat) (m : Nat) (kX : St → Option (Int × Unit)) (kO : Nat → St → Option (Int × Unit)) (some1 : Y4) (p2 : Y2) (low5 : Y4) (z6 : Int) : zz13_R3 N (m + 1) (zz13_E3 kX kO) some1 p2 low5 z6 = zz13_b3 (zz13_R7 N N (zz13_K7 N m kX kO)) (zz13_X3 kX) some1 p2 low5 z6 := by kernel_rfl
theorem zz13_iter3 (N : Nat) (kX : St → Option (Int × Unit)) (kO : Nat → St → Option (Int × Unit)) : ∀ (n : Nat) (some1 : Y4) (p2 : Y2) (low5 : Y4) (z6 : Int), zz13_R3 N n (zz13_E3 kX kO) some1 p2 low5 z6 = zz13_l3 N (zz13_X3 kX) n some1 p2 low5 z6
  | 0, _, _, _, _ => rfl
  | m + 1, some1, p2, low5, z6 => by
    have hrec : zz13_R3 N m (zz13_E3 kX kO) = (zz13_l3 N (zz13_X3 kX) m) := (funext fun some1 => (funext fun p2 => (funext fun low5 => (funext fun z6 => zz13_iter3 N kX kO m some1 p2 low5 z6))))
    refine (zz13_step3 N m kX kO some1 p2 low5 z6).trans ?_
    rw [(funext fun some1 => (funext fun p2 => (funext fun low5 => (funext fun z6 => (funext fun all7 => (funext fun i8 => zz13_in7 N m kX kO (zz13_l3 N (zz13_X3 kX) m) hrec some1 p2 low5 z6 all7 i8))))))]
    rfl
noncomputable abbrev zz13_K3 (N : Nat) : Ex → St → Option (Int × Unit) := (blockK 0 (seqK ((A_zz13).shape 25) (run (A_zz13) N (codeAt Try.f21 [1, 1, 1])) zz13_z))
theorem zz13_step13 (N : Nat) (m : Nat) (kX : St → Option (Int × Unit)) (kO : Nat → St → Option (Int × Unit)) (p2 : Y2) (low5 : Y4) (i9 : Int) : zz13_R13 N (m + 1) (zz13_E13 kX kO) p2 low5 i9 = zz13_b13 (zz13_R13 N m (zz13_E13 kX kO)) (zz13_X13 kX) p2 low5 i9 := by kernel_rfl
theorem zz13_iter13 (N : Nat) (kX : St → Option (Int × Unit)) (kO : Nat → St → Option (Int × Unit)) : ∀ (n : Nat) (p2 : Y2) (low5 : Y4) (i9 : Int), zz13_R13 N n (zz13_E13 kX kO) p2 low5 i9 = zz13_l13 N (zz13_X13 kX) n p2 low5 i9
  | 0, _, _, _ => rfl
  | m + 1, p2, low5, i9 => by
    have hrec : zz13_R13 N m (zz13_E13 kX kO) = (zz13_l13 N (zz13_X13 kX) m) := (funext fun p2 => (funext fun low5 => (funext fun i9 => zz13_iter13 N kX kO m p2 low5 i9)))
    refine (zz13_step13 N m kX kO p2 low5 i9).trans ?_
    rw [hrec]
    rfl
noncomputable abbrev zz13_K13 (N : Nat) : Ex → St → Option (Int × Unit) := (blockK 4 (seqK ((A_zz13).shape 35) (run (A_zz13) N (codeAt Try.f21 [1, 1, 1, 1])) zz13_z))
noncomputable abbrev zz13_k13 (N : Nat) : St → Option (Int × Unit) := fun st' => run (A_zz13) N (codeAt Try.f21 [1, 1, 1, 1]) st' zz13_z
theorem zz13_after13 (N : Nat) : zz13_X13 (zz13_k13 N) = zz13_a13 := by kernel_rfl
theorem zz13_in13 (N : Nat) (p2 : Y2) (low5 : Y4) (i9 : Int) : zz13_R13 N N (zz13_K13 N) p2 low5 i9 = zz13_F13 N p2 low5 i9 :=
  have h : zz13_X13 (zz13_k13 N) = (zz13_a13) := zz13_after13 N
  ((iter_ex (fun st => by kernel_rfl) (fun st => by kernel_rfl)).trans (zz13_iter13 N (zz13_k13 N) (fun j st => (zz13_K13 N) (.exit j) st) N p2 low5 i9)).trans (congrArg (fun k => zz13_l13 N k N p2 low5 i9) h)
noncomputable abbrev zz13_k3 (N : Nat) : St → Option (Int × Unit) := fun st' => run (A_zz13) N (codeAt Try.f21 [1, 1, 1]) st' zz13_z
theorem zz13_after3 (N : Nat) (p2 : Y2) (low5 : Y4) : zz13_X3 (zz13_k3 N) p2 low5 = zz13_a3 (zz13_R13 N N (zz13_K13 N)) p2 low5 := by kernel_rfl
theorem zz13_in3 (N : Nat) (some1 : Y4) (p2 : Y2) (low5 : Y4) (z6 : Int) : zz13_R3 N N (zz13_K3 N) some1 p2 low5 z6 = zz13_F3 N some1 p2 low5 z6 :=
  have h : zz13_X3 (zz13_k3 N) = (zz13_a3 (zz13_F13 N)) := (funext fun p2 => (funext fun low5 => (zz13_after3 N p2 low5).trans (by rw [(funext fun p2 => (funext fun low5 => (funext fun i9 => zz13_in13 N p2 low5 i9)))])))
  ((iter_ex (fun st => by kernel_rfl) (fun st => by kernel_rfl)).trans (zz13_iter3 N (zz13_k3 N) (fun j st => (zz13_K3 N) (.exit j) st) N some1 p2 low5 z6)).trans (congrArg (fun k => zz13_l3 N k N some1 p2 low5 z6) h)
theorem run0_zz13 (N : Nat) (x : (S_zz13).a.den) : runF (A_zz13) N Try.f21 S_zz13 x = (zz13_s (zz13_R3 N N (zz13_K3 N)) x.1 x.2.1) := by kernel_rfl
theorem run_zz13 (N : Nat) (x : (S_zz13).a.den) : runF (A_zz13) N Try.f21 S_zz13 x = zz13 N x.1 x.2.1 := by
  refine (run0_zz13 N x).trans ?_
  rw [(funext fun some1 => (funext fun p2 => (funext fun low5 => (funext fun z6 => zz13_in3 N some1 p2 low5 z6))))]
  rfl
theorem fn_zz13 : FnOk Try.prog 21 := ⟨_, Try.func21, by kernel_rfl, by kernel_rfl⟩
theorem good_zz13 : Gx.Good Try.prog 21 S_zz13 := good_of_run Try.func21 (of_decide_eq_true (by kernel_rfl)) fun x r h => ⟨A_zz13, big, mkCfg_ok tabOk, mkCfg_sigs (show SigsOk Try.prog [(38, S_zz11), (39, S_zz9)] from ⟨⟨fn_zz11, good_zz11⟩, ⟨fn_zz9, good_zz9⟩, trivial⟩), (run_zz13 big x).trans h⟩

/-! zz14 -/
def zz14_b8 (rec : Y2 → Y2 → Int → Int → Option (Bool × Unit)) (k : Y2 → Y2 → Int → Option (Bool × Unit)) (p1 : Y2) (dual3 : Y2) (x4 : Int) (y5 : Int) : Option (Bool × Unit) :=
  cond (decide (y5 < x4))
  ((zz13 big p1 [x4, y5]).bind fun rq3 =>
  cond (decide (rq3.1 < (0 : Int)))
  (some (false, (())))
  ((zz13 big dual3 [x4, y5]).bind fun rq4 =>
  cond (decide (rq4.1 < (0 : Int)))
  (some (false, (())))
  (rec p1 dual3 x4 (IntKind.i64.wrap (y5 + (1 : Int))))))
  (k p1 dual3 x4)
def zz14_a8 (rec : Y2 → Y2 → Int → Option (Bool × Unit)) (p1 : Y2) (dual3 : Y2) (x4 : Int) : Option (Bool × Unit) :=
  rec p1 dual3 (IntKind.i64.wrap (x4 + (1 : Int)))
def zz14_b5 (L8 : Y2 → Y2 → Int → Int → Option (Bool × Unit)) (k : Option (Bool × Unit)) (p1 : Y2) (dual3 : Y2) (x4 : Int) : Option (Bool × Unit) :=
  cond (decide (x4 < (p1.1.length : Int)))
  (L8 p1 dual3 x4 (0 : Int))
  (k)
def zz14_a5 : Option (Bool × Unit) :=
  some (true, (()))
def zz14_s (L5 : Y2 → Y2 → Int → Option (Bool × Unit)) (p_0 : Y2) : Option (Bool × Unit) :=
  (zz10 big p_0).bind fun rq1 =>
  cond (!rq1.1)
  (some (false, (())))
  (cond (decide ((p_0.1.length : Int) = (0 : Int)))
  (some (false, (())))
  ((zz12 big p_0).bind fun rq2 =>
  L5 p_0 rq2.1 (0 : Int)))
def zz14_l8 (N : Nat) (k : Y2 → Y2 → Int → Option (Bool × Unit)) : Nat → Y2 → Y2 → Int → Int → Option (Bool × Unit)
  | 0, _, _, _, _ => none
  | m + 1, p1, dual3, x4, y5 => zz14_b8 (zz14_l8 N k m) k p1 dual3 x4 y5
def zz14_F8 (N : Nat) (rec : Y2 → Y2 → Int → Option (Bool × Unit)) (k : Option (Bool × Unit)) (p1 : Y2) (dual3 : Y2) (x4 : Int) (y5 : Int) : Option (Bool × Unit) := zz14_l8 N (zz14_a8 rec) N p1 dual3 x4 y5
def zz14_l5 (N : Nat) (k : Option (Bool × Unit)) : Nat → Y2 → Y2 → Int → Option (Bool × Unit)
  | 0, _, _, _ => none
  | m + 1, p1, dual3, x4 => zz14_b5 (zz14_F8 N (zz14_l5 N k m) k) k p1 dual3 x4
def zz14_F5 (N : Nat) (p1 : Y2) (dual3 : Y2) (x4 : Int) : Option (Bool × Unit) := zz14_l5 N (zz14_a5) N p1 dual3 x4
def zz14 (N : Nat) (p_0 : Y2) : Option (Bool × Unit) := zz14_s (zz14_F5 N) p_0
def S_zz14 : Sig := { a := (.pair (.pair (.sl (.sl I)) .unit) .unit), md := [0], mf := [], m := .unit, r := .bool, rf := .i, f := fun x => zz14 big x.1 }
def A_zz14 : Cfg := mkCfg tab [(47, S_zz10), (22, S_zz12), (21, S_zz13)] [(10, [.drop, .as (.ptr (.pair (.sl (.sl I)) .unit)) (.o .i), .drop, .as (.ptr (.pair (.sl (.sl I)) .unit)) (.o (.p (.o (.o .i)) .i)), .as I .i]), (16, [.drop, .as (.ptr (.pair (.sl (.sl I)) .unit)) (.o .i), .drop, .as (.ptr (.pair (.sl (.sl I)) .unit)) (.o (.p (.o (.o .i)) .i)), .as I .i, .as I .i]), (25, []), (13, [.drop, .as (.ptr (.pair (.sl (.sl I)) .unit)) (.o .i), .drop, .as (.ptr (.pair (.sl (.sl I)) .unit)) (.o (.p (.o (.o .i)) .i)), .as I .i])]
noncomputable def zz14_R5 (N n : Nat) (K : Ex → St → Option (Bool × Unit)) (p1 : Y2) (dual3 : Y2) (x4 : Int) : Option (Bool × Unit) := iter ((A_zz14).shape 10) (run (A_zz14) N (codeAt Try.f34 [1, 1, 1, 0, 1, 0, 0])) n ([.u, .val (.ptr (.pair (.sl (.sl I)) .unit)) (.o .i) p1, .u, .val (.ptr (.pair (.sl (.sl I)) .unit)) (.o (.p (.o (.o .i)) .i)) dual3, .val I .i x4] ++ List.replicate 38 .u) K
noncomputable def zz14_R8 (N n : Nat) (K : Ex → St → Option (Bool × Unit)) (p1 : Y2) (dual3 : Y2) (x4 : Int) (y5 : Int) : Option (Bool × Unit) := iter ((A_zz14).shape 16) (run (A_zz14) N (codeAt Try.f34 [1, 1, 1, 0, 1, 0, 0, 1, 0, 0, 1, 0, 0])) n ([.u, .val (.ptr (.pair (.sl (.sl I)) .unit)) (.o .i) p1, .u, .val (.ptr (.pair (.sl (.sl I)) .unit)) (.o (.p (.o (.o .i)) .i)) dual3, .val I .i x4, .val I .i y5] ++ List.replicate 37 .u) K
noncomputable abbrev zz14_z : Ex → St → Option (Bool × Unit) := finish (A_zz14) S_zz14 Try.f34.results.toList
noncomputable abbrev zz14_X5 (kX : St → Option (Bool × Unit)) : Option (Bool × Unit) := kX ([] ++ List.replicate 43 .u)
noncomputable abbrev zz14_E5 (kX : St → Option (Bool × Unit)) (kO : Nat → St → Option (Bool × Unit)) : Ex → St → Option (Bool × Unit) := exK zz14_z 0 ((A_zz14).shape 25) kX kO
noncomputable abbrev zz14_X8 (kX : St → Option (Bool × Unit)) : Y2 → Y2 → Int → Option (Bool × Unit) := fun (p1 : Y2) (dual3 : Y2) (x4 : Int) => kX ([.u, .val (.ptr (.pair (.sl (.sl I)) .unit)) (.o .i) p1, .u, .val (.ptr (.pair (.sl (.sl I)) .unit)) (.o (.p (.o (.o .i)) .i)) dual3, .val I .i x4] ++ List.replicate 38 .u)
noncomputable abbrev zz14_E8 (kX : St → Option (Bool × Unit)) (kO : Nat → St → Option (Bool × Unit)) : Ex → St → Option (Bool × Unit) := exK zz14_z 2 ((A_zz14).shape 13) kX kO
theorem zz14_step8 (N : Nat) (m : Nat) (kX : St → Option (Bool × Unit)) (kO : Nat → St → Option (Bool × Unit)) (p1 : Y2) (dual3 : Y2) (x4 : Int) (y5 : Int) : zz14_R8 N (m + 1) (zz14_E8 kX kO) p1 dual3 x4 y5 = zz14_b8 (zz14_R8 N m (zz14_E8 kX kO)) (zz14_X8 kX) p1 dual3 x4 y5 := by kernel_rfl
theorem zz14_iter8 (N : Nat) (kX : St → Option (Bool × Unit)) (kO : Nat → St → Option (Bool × Unit)) : ∀ (n : Nat) (p1 : Y2) (dual3 : Y2) (x4 : Int) (y5 : Int), zz14_R8 N n (zz14_E8 kX kO) p1 dual3 x4 y5 = zz14_l8 N (zz14_X8 kX) n p1 dual3 x4 y5
  | 0, _, _, _, _ => rfl
  | m + 1, p1, dual3, x4, y5 => by
    have hrec : zz14_R8 N m (zz14_E8 kX kO) = (zz14_l8 N (zz14_X8 kX) m) := (funext fun p1 => (funext fun dual3 => (funext fun x4 => (funext fun y5 => zz14_iter8 N kX kO m p1 dual3 x4 y5))))
    refine (zz14_step8 N m kX kO p1 dual3 x4 y5).trans ?_
    rw [hrec]
    rfl
noncomputable abbrev zz14_K8 (N : Nat) (m : Nat) (kX : St → Option (Bool × Unit)) (kO : Nat → St → Option (Bool × Unit)) : Ex → St → Option (Bool × Unit) := (blockK 2 (blockK 1 (seqK ((A_zz14).shape 13) (run (A_zz14) N (codeAt Try.f34 [1, 1, 1, 0, 1, 0, 0, 1, 1])) (iterK ((A_zz14).shape 10) (run (A_zz14) N (codeAt Try.f34 [1, 1, 1, 0, 1, 0, 0])) m (zz14_E5 kX kO)))))
noncomputable abbrev zz14_k8 (N : Nat) (m : Nat) (kX : St → Option (Bool × Unit)) (kO : Nat → St → Option (Bool × Unit)) : St → Option (Bool × Unit) := fun st' => run (A_zz14) N (codeAt Try.f34 [1, 1, 1, 0, 1, 0, 0, 1, 1]) st' (iterK ((A_zz14).shape 10) (run (A_zz14) N (codeAt Try.f34 [1, 1, 1, 0, 1, 0, 0])) m (zz14_E5 kX kO))
theorem zz14_after8 (N : Nat) (m : Nat) (kX : St → Option (Bool × Unit)) (kO : Nat → St → Option (Bool × Unit)) (p1 : Y2) (dual3 : Y2) (x4 : Int) : zz14_X8 (zz14_k8 N m kX kO) p1 dual3 x4 = zz14_a8 (zz14_R5 N m (zz14_E5 kX kO)) p1 dual3 x4 := by kernel_rfl
theorem zz14_in8 (N : Nat) (m : Nat) (kX : St → Option (Bool × Unit)) (kO : Nat → St → Option (Bool × Unit)) (recF : Y2 → Y2 → Int → Option (Bool × Unit)) (hrec : zz14_R5 N m (zz14_E5 kX kO) = recF) (p1 : Y2) (dual3 : Y2) (x4 : Int) (y5 : Int) : zz14_R8 N N (zz14_K8 N m kX kO) p1 dual3 x4 y5 = zz14_F8 N recF (zz14_X5 kX) p1 dual3 x4 y5 :=
  have h : zz14_X8 (zz14_k8 N m kX kO) = (zz14_a8 recF) := (funext fun p1 => (funext fun dual3 => (funext fun x4 => (zz14_after8 N m kX kO p1 dual3 x4).trans (by rw [hrec]))))
  ((iter_ex (fun st => by kernel_rfl) (fun st => by kernel_rfl)).trans (zz14_iter8 N (zz14_k8 N m kX kO) (fun j st => (zz14_K8 N m kX kO) (.exit j) st) N p1 dual3 x4 y5)).trans (congrArg (fun k => zz14_l8 N k N p1 dual3 x4 y5) h)
theorem zz14_step5 (N : Nat) (m : Nat) (kX : St → Option (Bool × Unit)) (kO : Nat → St → Option (Bool × Unit)) (p1 : Y2) (dual3 : Y2) (x4 : Int) : zz14_R5 N (m + 1) (zz14_E5 kX kO) p1 dual3 x4 = zz14_b5 (zz14_R8 N N (zz14_K8 N m kX kO)) (zz14_X5 kX) p1 dual3 x4 := by kernel_rfl
theorem zz14_iter5 (N : Nat) (kX : St → Option (Bool × Unit)) (kO : Nat → St → Option (Bool × Unit)) : ∀ (n : Nat) (p1 : Y2) (dual3 : Y2) (x4 : Int), zz14_R5 N n (zz14_E5 kX kO) p1 dual3 x4 = zz14_l5 N (zz14_X5 kX) n p1 dual3 x4
  | 0, _, _, _ => rfl
  | m + 1, p1, dual3, x4 => by
    have hrec : zz14_R5 N m (zz14_E5 kX kO) = (zz14_l5 N (zz14_X5 kX) m) := (funext fun p1 => (funext fun dual3 => (funext fun x4 => zz14_iter5 N kX kO m p1 dual3 x4)))
    refine (zz14_step5 N m kX kO p1 dual3 x4).trans ?_
    rw [(funext fun p1 => (funext fun dual3 => (funext fun x4 => (funext fun y5 => zz14_in8 N m kX kO (zz14_l5 N (zz14_X5 kX) m) hrec p1 dual3 x4 y5))))]
    rfl
noncomputable abbrev zz14_K5 (N : Nat) : Ex → St → Option (Bool × Unit) := (blockK 0 (seqK ((A_zz14).shape 25) (run (A_zz14) N (codeAt Try.f34 [1, 1, 1, 1])) zz14_z))
noncomputable abbrev zz14_k5 (N : Nat) : St → Option (Bool × Unit) := fun st' => run (A_zz14) N (codeAt Try.f34 [1, 1, 1, 1]) st' zz14_z
theorem zz14_after5 (N : Nat) : zz14_X5 (zz14_k5 N) = zz14_a5 := by kernel_rfl
theorem zz14_in5 (N : Nat) (p1 : Y2) (dual3 : Y2) (x4 : Int) : zz14_R5 N N (zz14_K5 N) p1 dual3 x4 = zz14_F5 N p1 dual3 x4 :=
  have h : zz14_X5 (zz14_k5 N) = (zz14_a5) := zz14_after5 N
  ((iter_ex (fun st => by kernel_rfl) (fun st => by kernel_rfl)).trans (zz14_iter5 N (zz14_k5 N) (fun j st => (zz14_K5 N) (.exit j) st) N p1 dual3 x4)).trans (congrArg (fun k => zz14_l5 N k N p1 dual3 x4) h)
theorem run0_zz14 (N : Nat) (x : (S_zz14).a.den) : runF (A_zz14) N Try.f34 S_zz14 x = (zz14_s (zz14_R5 N N (zz14_K5 N)) x.1) := by kernel_rfl
theorem run_zz14 (N : Nat) (x : (S_zz14).a.den) : runF (A_zz14) N Try.f34 S_zz14 x = zz14 N x.1 := by
  refine (run0_zz14 N x).trans ?_
  rw [(funext fun p1 => (funext fun dual3 => (funext fun x4 => zz14_in5 N p1 dual3 x4)))]
  rfl
theorem fn_zz14 : FnOk Try.prog 34 := ⟨_, Try.func34, by kernel_rfl, by kernel_rfl⟩
theorem good_zz14 : Gx.Good Try.prog 34 S_zz14 := good_of_run Try.func34 (of_decide_eq_true (by kernel_rfl)) fun x r h => ⟨A_zz14, big, mkCfg_ok tabOk, mkCfg_sigs (show SigsOk Try.prog [(47, S_zz10), (22, S_zz12), (21, S_zz13)] from ⟨⟨fn_zz10, good_zz10⟩, ⟨fn_zz12, good_zz12⟩, ⟨fn_zz13, good_zz13⟩, trivial⟩), (run_zz14 big x).trans h⟩

/-! zz15 -/
def zz15_s (p_0 : Y2) : Option (Bool × Unit) :=
  cond (decide ((p_0.1.length : Int) ≤ (8 : Int)))
  ((zz14 big p_0).bind fun rq1 =>
  some (rq1.1, (())))
  (some (false, (())))
def zz15 (p_0 : Y2) : Option (Bool × Unit) := zz15_s p_0
def S_zz15 : Sig := { a := (.pair (.pair (.sl (.sl I)) .unit) .unit), md := [0], mf := [], m := .unit, r := .bool, rf := .i, f := fun x => zz15 x.1 }
def A_zz15 : Cfg := mkCfg tab [(34, S_zz14)] []
theorem run_zz15 (N : Nat) (x : (S_zz15).a.den) : runF (A_zz15) N Try.f17 S_zz15 x = zz15 x.1 := by kernel_rfl
theorem fn_zz15 : FnOk Try.prog 17 := ⟨_, Try.func17, by kernel_rfl, by kernel_rfl⟩
theorem good_zz15 : Gx.Good Try.prog 17 S_zz15 := good_of_run Try.func17 (of_decide_eq_true (by kernel_rfl)) fun x r h => ⟨A_zz15, big, mkCfg_ok tabOk, mkCfg_sigs (show SigsOk Try.prog [(34, S_zz14)] from ⟨⟨fn_zz14, good_zz14⟩, trivial⟩), (run_zz15 big x).trans h⟩

/-! zz16 -/
def zz16_b8 (rec : Y2 → Y7 → Int → Y2 → Y6 → Y6 → Int → Int → Option (Y7 × Unit)) (k : Y2 → Y7 → Int → Y2 → Y6 → Y6 → Int → Option (Y7 × Unit)) (p1 : Y2) (t2 : Y7) (n3 : Int) (dual4 : Y2) (meet5 : Y6) (join6 : Y6) (x7 : Int) (y8 : Int) : Option (Y7 × Unit) :=
  cond (decide (y8 < n3))
  ((zz13 big p1 [x7, y8]).bind fun rq2 =>
  (appI meet5.2.1 [rq2.1]).bind fun xq3 =>
  (zz13 big dual4 [x7, y8]).bind fun rq4 =>
  (appI join6.2.1 [rq4.1]).bind fun xq5 =>
  rec p1 t2 n3 dual4 ((meet5.1, ((), meet5.2.2)).1, (xq3, ((meet5.1, ((), meet5.2.2)).2).2)) ((join6.1, ((), join6.2.2)).1, (xq5, ((join6.1, ((), join6.2.2)).2).2)) x7 (IntKind.i64.wrap (y8 + (1 : Int))))
  (k p1 t2 n3 dual4 meet5 join6 x7)
def zz16_a8 (rec : Y2 → Y7 → Int → Y2 → Y6 → Y6 → Int → Option (Y7 × Unit)) (p1 : Y2) (t2 : Y7) (n3 : Int) (dual4 : Y2) (meet5 : Y6) (join6 : Y6) (x7 : Int) : Option (Y7 × Unit) :=
  rec p1 t2 n3 dual4 meet5 join6 (IntKind.i64.wrap (x7 + (1 : Int)))
def zz16_b5 (L8 : Y2 → Y7 → Int → Y2 → Y6 → Y6 → Int → Int → Option (Y7 × Unit)) (k : Y7 → Int → Y6 → Y6 → Option (Y7 × Unit)) (p1 : Y2) (t2 : Y7) (n3 : Int) (dual4 : Y2) (meet5 : Y6) (join6 : Y6) (x7 : Int) : Option (Y7 × Unit) :=
  cond (decide (x7 < n3))
  (L8 p1 t2 n3 dual4 meet5 join6 x7 (0 : Int))
  (k t2 n3 meet5 join6)
def zz16_a5 (t2 : Y7) (n3 : Int) (meet5 : Y6) (join6 : Y6) : Option (Y7 × Unit) :=
  some ((n3, ([meet5, join6], ())), (()))
def zz16_s (L5 : Y2 → Y7 → Int → Y2 → Y6 → Y6 → Int → Option (Y7 × Unit)) (p_0 : Y2) : Option (Y7 × Unit) :=
  (zz12 big p_0).bind fun rq1 =>
  L5 p_0 ((0 : Int), (([] : (List Y6)), ())) (p_0.1.length : Int) rq1.1 ((2 : Int), (([] : Y4), ())) ((2 : Int), (([] : Y4), ())) (0 : Int)
def zz16_l8 (N : Nat) (k : Y2 → Y7 → Int → Y2 → Y6 → Y6 → Int → Option (Y7 × Unit)) : Nat → Y2 → Y7 → Int → Y2 → Y6 → Y6 → Int → Int → Option (Y7 × Unit)
  | 0, _, _, _, _, _, _, _, _ => none
  | m + 1, p1, t2, n3, dual4, meet5, join6, x7, y8 => zz16_b8 (zz16_l8 N k m) k p1 t2 n3 dual4 meet5 join6 x7 y8
def zz16_F8 (N : Nat) (rec : Y2 → Y7 → Int → Y2 → Y6 → Y6 → Int → Option (Y7 × Unit)) (k : Y7 → Int → Y6 → Y6 → Option (Y7 × Unit)) (p1 : Y2) (t2 : Y7) (n3 : Int) (dual4 : Y2) (meet5 : Y6) (join6 : Y6) (x7 : Int) (y8 : Int) : Option (Y7 × Unit) := zz16_l8 N (zz16_a8 rec) N p1 t2 n3 dual4 meet5 join6 x7 y8
def zz16_l5 (N : Nat) (k : Y7 → Int → Y6 → Y6 → Option (Y7 × Unit)) : Nat → Y2 → Y7 → Int → Y2 → Y6 → Y6 → Int → Option (Y7 × Unit)
  | 0, _, _, _, _, _, _, _ => none
  | m + 1, p1, t2, n3, dual4, meet5, join6, x7 => zz16_b5 (zz16_F8 N (zz16_l5 N k m) k) k p1 t2 n3 dual4 meet5 join6 x7
def zz16_F5 (N : Nat) (p1 : Y2) (t2 : Y7) (n3 : Int) (dual4 : Y2) (meet5 : Y6) (join6 : Y6) (x7 : Int) : Option (Y7 × Unit) := zz16_l5 N (zz16_a5) N p1 t2 n3 dual4 meet5 join6 x7
def zz16 (N : Nat) (p_0 : Y2) : Option (Y7 × Unit) := zz16_s (zz16_F5 N) p_0
def S_zz16 : Sig := { a := (.pair (.pair (.sl (.sl I)) .unit) .unit), md := [0], mf := [], m := .unit, r := (.pair I (.pair (.sl (.pair I (.pair (.sl I) .unit))) .unit)), rf := (.p .i (.p (.o (.p .i (.p (.o .i) .i))) .i)), f := fun x => zz16 big x.1 }
def A_zz16 : Cfg := mkCfg tab [(22, S_zz12), (21, S_zz13)] [(10, [.drop, .as (.ptr (.pair (.sl (.sl I)) .unit)) (.o .i), .as (.ptr (.pair I (.pair (.sl (.pair I (.pair (.sl I) .unit))) .unit))) (.o (.p .i (.p (.o (.p .i (.p (.o .i) .i))) .i))), .as I .i, .as (.ptr (.pair (.sl (.sl I)) .unit)) (.o (.p (.o (.o .i)) .i)), .as (.ptr (.pair I (.pair (.sl I) .unit))) (.o (.p .i (.p (.o .i) .i))), .as (.ptr (.pair I (.pair (.sl I) .unit))) (.o (.p .i (.p (.o .i) .i))), .as I .i]), (16, [.drop, .as (.ptr (.pair (.sl (.sl I)) .unit)) (.o .i), .as (.ptr (.pair I (.pair (.sl (.pair I (.pair (.sl I) .unit))) .unit))) (.o (.p .i (.p (.o (.p .i (.p (.o .i) .i))) .i))), .as I .i, .as (.ptr (.pair (.sl (.sl I)) .unit)) (.o (.p (.o (.o .i)) .i)), .as (.ptr (.pair I (.pair (.sl I) .unit))) (.o (.p .i (.p (.o .i) .i))), .as (.ptr (.pair I (.pair (.sl I) .unit))) (.o (.p .i (.p (.o .i) .i))), .as I .i, .as I .i]), (25, [.drop, .drop, .as (.ptr (.pair I (.pair (.sl (.pair I (.pair (.sl I) .unit))) .unit))) (.o (.p .i (.p (.o (.p .i (.p (.o .i) .i))) .i))), .as I .i, .drop, .as (.ptr (.pair I (.pair (.sl I) .unit))) (.o (.p .i (.p (.o .i) .i))), .as (.ptr (.pair I (.pair (.sl I) .unit))) (.o (.p .i (.p (.o .i) .i)))]), (13, [.drop, .as (.ptr (.pair (.sl (.sl I)) .unit)) (.o .i), .as (.ptr (.pair I (.pair (.sl (.pair I (.pair (.sl I) .unit))) .unit))) (.o (.p .i (.p (.o (.p .i (.p (.o .i) .i))) .i))), .as I .i, .as (.ptr (.pair (.sl (.sl I)) .unit)) (.o (.p (.o (.o .i)) .i)), .as (.ptr (.pair I (.pair (.sl I) .unit))) (.o (.p .i (.p (.o .i) .i))), .as (.ptr (.pair I (.pair (.sl I) .unit))) (.o (.p .i (.p (.o .i) .i))), .as I .i])]
noncomputable def zz16_R5 (N n : Nat) (K : Ex → St → Option (Y7 × Unit)) (p1 : Y2) (t2 : Y7) (n3 : Int) (dual4 : Y2) (meet5 : Y6) (join6 : Y6) (x7 : Int) : Option (Y7 × Unit) := iter ((A_zz16).shape 10) (run (A_zz16) N (codeAt Try.f19 [1, 1, 1, 1, 0, 1, 0, 0])) n ([.u, .val (.ptr (.pair (.sl (.sl I)) .unit)) (.o .i) p1, .val (.ptr (.pair I (.pair (.sl (.pair I (.pair (.sl I) .unit))) .unit))) (.o (.p .i (.p (.o (.p .i (.p (.o .i) .i))) .i))) t2, .val I .i n3, .val (.ptr (.pair (.sl (.sl I)) .unit)) (.o (.p (.o (.o .i)) .i)) dual4, .val (.ptr (.pair I (.pair (.sl I) .unit))) (.o (.p .i (.p (.o .i) .i))) meet5, .val (.ptr (.pair I (.pair (.sl I) .unit))) (.o (.p .i (.p (.o .i) .i))) join6, .val I .i x7] ++ List.replicate 43 .u) K
noncomputable def zz16_R8 (N n : Nat) (K : Ex → St → Option (Y7 × Unit)) (p1 : Y2) (t2 : Y7) (n3 : Int) (dual4 : Y2) (meet5 : Y6) (join6 : Y6) (x7 : Int) (y8 : Int) : Option (Y7 × Unit) := iter ((A_zz16).shape 16) (run (A_zz16) N (codeAt Try.f19 [1, 1, 1, 1, 0, 1, 0, 0, 1, 0, 0, 1, 0, 0])) n ([.u, .val (.ptr (.pair (.sl (.sl I)) .unit)) (.o .i) p1, .val (.ptr (.pair I (.pair (.sl (.pair I (.pair (.sl I) .unit))) .unit))) (.o (.p .i (.p (.o (.p .i (.p (.o .i) .i))) .i))) t2, .val I .i n3, .val (.ptr (.pair (.sl (.sl I)) .unit)) (.o (.p (.o (.o .i)) .i)) dual4, .val (.ptr (.pair I (.pair (.sl I) .unit))) (.o (.p .i (.p (.o .i) .i))) meet5, .val (.ptr (.pair I (.pair (.sl I) .unit))) (.o (.p .i (.p (.o .i) .i))) join6, .val I .i x7, .val I .i y8] ++ List.replicate 42 .u) K
noncomputable abbrev zz16_z : Ex → St → Option (Y7 × Unit) := finish (A_zz16) S_zz16 Try.f19.results.toList
noncomputable abbrev zz16_X5 (kX : St → Option (Y7 × Unit)) : Y7 → Int → Y6 → Y6 → Option (Y7 × Unit) := fun (t2 : Y7) (n3 : Int) (meet5 : Y6) (join6 : Y6) => kX ([.u, .u, .val (.ptr (.pair I (.pair (.sl (.pair I (.pair (.sl I) .unit))) .unit))) (.o (.p .i (.p (.o (.p .i (.p (.o .i) .i))) .i))) t2, .val I .i n3, .u, .val (.ptr (.pair I (.pair (.sl I) .unit))) (.o (.p .i (.p (.o .i) .i))) meet5, .val (.ptr (.pair I (.pair (.sl I) .unit))) (.o (.p .i (.p (.o .i) .i))) join6] ++ List.replicate 44 .u)
noncomputable abbrev zz16_E5 (kX : St → Option (Y7 × Unit)) (kO : Nat → St → Option (Y7 × Unit)) : Ex → St → Option (Y7 × Unit) := exK zz16_z 0 ((A_zz16).shape 25) kX kO
noncomputable abbrev zz16_X8 (kX : St → Option (Y7 × Unit)) : Y2 → Y7 → Int → Y2 → Y6 → Y6 → Int → Option (Y7 × Unit) := fun (p1 : Y2) (t2 : Y7) (n3 : Int) (dual4 : Y2) (meet5 : Y6) (join6 : Y6) (x7 : Int) => kX ([.u, .val (.ptr (.pair (.sl (.sl I)) .unit)) (.o .i) p1, .val (.ptr (.pair I (.pair (.sl (.pair I (.pair (.sl I) .unit))) .unit))) (.o (.p .i (.p (.o (.p .i (.p (.o .i) .i))) .i))) t2, .val I .i n3, .val (.ptr (.pair (.sl (.sl I)) .unit)) (.o (.p (.o (.o .i)) .i)) dual4, .val (.ptr (.pair I (.pair (.sl I) .unit))) (.o (.p .i (.p (.o .i) .i))) meet5, .val (.ptr (.pair I (.pair (.sl I) .unit))) (.o (.p .i (.p (.o .i) .i))) join6, .val I .i x7] ++ List.replicate 43 .u)
noncomputable abbrev zz16_E8 (kX : St → Option (Y7 × Unit)) (kO : Nat → St → Option (Y7 × Unit)) : Ex → St → Option (Y7 × Unit) := exK zz16_z 2 ((A_zz16).shape 13) kX kO
theorem zz16_step8 (N : Nat) (m : Nat) (kX : St → Option (Y7 × Unit)) (kO : Nat → St → Option (Y7 × Unit)) (p1 : Y2) (t2 : Y7) (n3 : Int) (dual4 : Y2) (meet5 : Y6) (join6 : Y6) (x7 : Int) (y8 : Int) : zz16_R8 N (m + 1) (zz16_E8 kX kO) p1 t2 n3 dual4 meet5 join6 x7 y8 = zz16_b8 (zz16_R8 N m (zz16_E8 kX kO)) (zz16_X8 kX) p1 t2 n3 dual4 meet5 join6 x7 y8 := by kernel_rfl
theorem zz16_iter8 (N : Nat) (kX : St → Option (Y7 × Unit)) (kO : Nat → St → Option (Y7 × Unit)) : ∀ (n : Nat) (p1 : Y2) (t2 : Y7) (n3 : Int) (dual4 : Y2) (meet5 : Y6) (join6 : Y6) (x7 : Int) (y8 : Int), zz16_R8 N n (zz16_E8 kX kO) p1 t2 n3 dual4 meet5 join6 x7 y8 = zz16_l8 N (zz16_X8 kX) n p1 t2 n3 dual4 meet5 join6 x7 y8
  | 0, _, _, _, _, _, _, _, _ => rfl
  | m + 1, p1, t2, n3, dual4, meet5, join6, x7, y8 => by
    have hrec : zz16_R8 N m (zz16_E8 kX kO) = (zz16_l8 N (zz16_X8 kX) m) := (funext fun p1 => (funext fun t2 => (funext fun n3 => (funext fun dual4 => (funext fun meet5 => (funext fun join6 => (funext fun x7 => (funext fun y8 => zz16_iter8 N kX kO m p1 t2 n3 dual4 meet5 join6 x7 y8))))))))
    refine (zz16_step8 N m kX kO p1 t2 n3 dual4 meet5 join6 x7 y8).trans ?_
    rw [hrec]
    rfl
noncomputable abbrev zz16_K8 (N : Nat) (m : Nat) (kX : St → Option (Y7 × Unit)) (kO : Nat → St → Option (Y7 × Unit)) : Ex → St → Option (Y7 × Unit) := (blockK 2 (blockK 1 (seqK ((A_zz16).shape 13) (run (A_zz16) N (codeAt Try.f19 [1, 1, 1, 1, 0, 1, 0, 0, 1, 1])) (iterK ((A_zz16).shape 10) (run (A_zz16) N (codeAt Try.f19 [1, 1, 1, 1, 0, 1, 0, 0])) m (zz16_E5 kX kO)))))
noncomputable abbrev zz16_k8 (N : Nat) (m : Nat) (kX : St → Option (Y7 × Unit)) (kO : Nat → St → Option (Y7 × Unit)) : St → Option (Y7 × Unit) := fun st' => run (A_zz16) N (codeAt Try.f19 [1, 1, 1, 1, 0, 1, 0, 0, 1, 1]) st' (iterK ((A_zz16).shape 10) (run (A_zz16) N (codeAt Try.f19 [1, 1, 1, 1, 0, 1, 0, 0])) m (zz16_E5 kX kO))
theorem zz16_after8 (N : Nat) (m : Nat) (kX : St → Option (Y7 × Unit)) (kO : Nat → St → Option (Y7 × Unit)) (p1 : Y2) (t2 : Y7) (n3 : Int) (dual4 : Y2) (meet5 : Y6) (join6 : Y6) (x7 : Int) : zz16_X8 (zz16_k8 N m kX kO) p1 t2 n3 dual4 meet5 join6 x7 = zz16_a8 (zz16_R5 N m (zz16_E5 kX kO)) p1 t2 n3 dual4 meet5 join6 x7 := by kernel_rfl
theorem zz16_in8 (N : Nat) (m : Nat) (kX : St → Option (Y7 × Unit)) (kO : Nat → St → Option (Y7 × Unit)) (recF : Y2 → Y7 → Int → Y2 → Y6 → Y6 → Int → Option (Y7 × Unit)) (hrec : zz16_R5 N m (zz16_E5 kX kO) = recF) (p1 : Y2) (t2 : Y7) (n3 : Int) (dual4 : Y2) (meet5 : Y6) (join6 : Y6) (x7 : Int) (y8 : Int) : zz16_R8 N N (zz16_K8 N m kX kO) p1 t2 n3 dual4 meet5 join6 x7 y8 = zz16_F8 N recF (zz16_X5 kX) p1 t2 n3 dual4 meet5 join6 x7 y8 :=
  have h : zz16_X8 (zz16_k8 N m kX kO) = (zz16_a8 recF) := (funext fun p1 => (funext fun t2 => (funext fun n3 => (funext fun dual4 => (funext fun meet5 => (funext fun join6 => (funext fun x7 => (zz16_after8 N m kX kO p1 t2 n3 dual4 meet5 join6 x7).trans (by rw [hrec]))))))))
  ((iter_ex (fun st => by kernel_rfl) (fun st => by kernel_rfl)).trans (zz16_iter8 N (zz16_k8 N m kX kO) (fun j st => (zz16_K8 N m kX kO) (.exit j) st) N p1 t2 n3 dual4 meet5 join6 x7 y8)).trans (congrArg (fun k => zz16_l8 N k N p1 t2 n3 dual4 meet5 join6 x7 y8) h)
theorem zz16_step5 (N : Nat) (m : Nat) (kX : St → Option (Y7 × Unit)) (kO : Nat → St → Option (Y7 × Unit)) (p1 : Y2) (t2 : Y7) (n3 : Int) (dual4 : Y2) (meet5 : Y6) (join6 : Y6) (x7 : Int) : zz16_R5 N (m + 1) (zz16_E5 kX kO) p1 t2 n3 dual4 meet5 join6 x7 = zz16_b5 (zz16_R8 N N (zz16_K8 N m kX kO)) (zz16_X5 kX) p1 t2 n3 dual4 meet5 join6 x7 := by kernel_rfl
theorem zz16_iter5 (N : Nat) (kX : St → Option (Y7 × Unit)) (kO : Nat → St → Option (Y7 × Unit)) : ∀ (n : Nat) (p1 : Y2) (t2 : Y7) (n3 : Int) (dual4 : Y2) (meet5 : Y6) (join6 : Y6) (x7 : Int), zz16_R5 N n (zz16_E5 kX kO) p1 t2 n3 dual4 meet5 join6 x7 = zz16_l5 N (zz16_X5 kX) n p1 t2 n3 dual4 meet5 join6 x7
  | 0, _, _, _, _, _, _, _ => rfl
  | m + 1, p1, t2, n3, dual4, meet5, join6, x7 => by
    have hrec : zz16_R5 N m (zz16_E5 kX kO) = (zz16_l5 N (zz16_X5 kX) m) := (funext fun p1 => (funext fun t2 => (funext fun n3 => (funext fun dual4 => (funext fun meet5 => (funext fun join6 => (funext fun x7 => zz16_iter5 N kX kO m p1 t2 n3 dual4 meet5 join6 x7)))))))
    refine (zz16_step5 N m kX kO p1 t2 n3 dual4 meet5 join6 x7).trans ?_
    rw [(funext fun p1 => (funext fun t2 => (funext fun n3 => (funext fun dual4 => (funext fun meet5 => (funext fun join6 => (funext fun x7 => (funext fun y8 => zz16_in8 N m kX kO (zz16_l5 N (zz16_X5 kX) m) hrec p1 t2 n3 dual4 meet5 join6 x7 y8))))))))]
    rfl
noncomputable abbrev zz16_K5 (N : Nat) : Ex → St → Option (Y7 × Unit) := (blockK 0 (seqK ((A_zz16).shape 25) (run (A_zz16) N (codeAt Try.f19 [1, 1, 1, 1, 1])) zz16_z))
noncomputable abbrev zz16_k5 (N : Nat) : St → Option (Y7 × Unit) := fun st' => run (A_zz16) N (codeAt Try.f19 [1, 1, 1, 1, 1]) st' zz16_z
theorem zz16_after5 (N : Nat) (t2 : Y7) (n3 : Int) (meet5 : Y6) (join6 : Y6) : zz16_X5 (zz16_k5 N) t2 n3 meet5 join6 = zz16_a5 t2 n3 meet5 join6 := by kernel_rfl
theorem zz16_in5 (N : Nat) (p1 : Y2) (t2 : Y7) (n3 : Int) (dual4 : Y2) (meet5 : Y6) (join6 : Y6) (x7 : Int) : zz16_R5 N N (zz16_K5 N) p1 t2 n3 dual4 meet5 join6 x7 = zz16_F5 N p1 t2 n3 dual4 meet5 join6 x7 :=
  have h : zz16_X5 (zz16_k5 N) = (zz16_a5) := (funext fun t2 => (funext fun n3 => (funext fun meet5 => (funext fun join6 => zz16_after5 N t2 n3 meet5 join6))))
  ((iter_ex (fun st => by kernel_rfl) (fun st => by kernel_rfl)).trans (zz16_iter5 N (zz16_k5 N) (fun j st => (zz16_K5 N) (.exit j) st) N p1 t2 n3 dual4 meet5 join6 x7)).trans (congrArg (fun k => zz16_l5 N k N p1 t2 n3 dual4 meet5 join6 x7) h)
theorem run0_zz16 (N : Nat) (x : (S_zz16).a.den) : runF (A_zz16) N Try.f19 S_zz16 x = (zz16_s (zz16_R5 N N (zz16_K5 N)) x.1) := by kernel_rfl
theorem run_zz16 (N : Nat) (x : (S_zz16).a.den) : runF (A_zz16) N Try.f19 S_zz16 x = zz16 N x.1 := by
  refine (run0_zz16 N x).trans ?_
  rw [(funext fun p1 => (funext fun t2 => (funext fun n3 => (funext fun dual4 => (funext fun meet5 => (funext fun join6 => (funext fun x7 => zz16_in5 N p1 t2 n3 dual4 meet5 join6 x7)))))))]
  rfl
theorem fn_zz16 : FnOk Try.prog 19 := ⟨_, Try.func19, by kernel_rfl, by kernel_rfl⟩
theorem good_zz16 : Gx.Good Try.prog 19 S_zz16 := good_of_run Try.func19 (of_decide_eq_true (by kernel_rfl)) fun x r h => ⟨A_zz16, big, mkCfg_ok tabOk, mkCfg_sigs (show SigsOk Try.prog [(22, S_zz12), (21, S_zz13)] from ⟨⟨fn_zz12, good_zz12⟩, ⟨fn_zz13, good_zz13⟩, trivial⟩), (run_zz16 big x).trans h⟩

/-! zz17 -/
def zz17_b4 (rec : Int → Y4 → Int → Option (Bool × Unit)) (k : Option (Bool × Unit)) (n0 : Int) (p1 : Y4) (x5 : Int) : Option (Bool × Unit) :=
  cond (decide (x5 < n0))
  ((atI p1 x5).bind fun xq1 =>
  (zz6 xq1 (0 : Int) x5).bind fun rq2 =>
  cond (!rq2.1)
  (some (false, (())))
  ((atI p1 x5).bind fun xq3 =>
  (atI p1 xq3).bind fun xq4 =>
  (atI p1 x5).bind fun xq5 =>
  cond (decide (xq4 ≠ xq5))
  (some (false, (())))
  (rec n0 p1 (IntKind.i64.wrap (x5 + (1 : Int))))))
  (k)
def zz17_a4 : Option (Bool × Unit) :=
  some (true, (()))
def zz17_s (L4 : Int → Y4 → Int → Option (Bool × Unit)) (n_0 : Int) (p_1 : Y4) : Option (Bool × Unit) :=
  cond (decide ((p_1.length : Int) ≠ n_0))
  (some (false, (())))
  (L4 n_0 p_1 (0 : Int))
def zz17_l4 (N : Nat) (k : Option (Bool × Unit)) : Nat → Int → Y4 → Int → Option (Bool × Unit)
  | 0, _, _, _ => none
  | m + 1, n0, p1, x5 => zz17_b4 (zz17_l4 N k m) k n0 p1 x5
def zz17_F4 (N : Nat) (n0 : Int) (p1 : Y4) (x5 : Int) : Option (Bool × Unit) := zz17_l4 N (zz17_a4) N n0 p1 x5
def zz17 (N : Nat) (n_0 : Int) (p_1 : Y4) : Option (Bool × Unit) := zz17_s (zz17_F4 N) n_0 p_1
def S_zz17 : Sig := { a := (.pair I (.pair (.sl I) .unit)), md := [0, 0], mf := [], m := .unit, r := .bool, rf := .i, f := fun x => zz17 big x.1 x.2.1 }
def A_zz17 : Cfg := mkCfg tab [(48, S_zz6)] [(8, [.as I .i, .as (.sl I) .i, .drop, .drop, .drop, .as I .i]), (17, [])]
noncomputable def zz17_R4 (N n : Nat) (K : Ex → St → Option (Bool × Unit)) (n0 : Int) (p1 : Y4) (x5 : Int) : Option (Bool × Unit) := iter ((A_zz17).shape 8) (run (A_zz17) N (codeAt Try.f35 [1, 1, 0, 1, 0, 0])) n ([.val I .i n0, .val (.sl I) .i p1, .u, .u, .u, .val I .i x5] ++ List.replicate 30 .u) K
noncomputable abbrev zz17_z : Ex → St → Option (Bool × Unit) := finish (A_zz17) S_zz17 Try.f35.results.toList
noncomputable abbrev zz17_X4 (kX : St → Option (Bool × Unit)) : Option (Bool × Unit) := kX ([] ++ List.replicate 36 .u)
noncomputable abbrev zz17_E4 (kX : St → Option (Bool × Unit)) (kO : Nat → St → Option (Bool × Unit)) : Ex → St → Option (Bool × Unit) := exK zz17_z 0 ((A_zz17).shape 17) kX kO
theorem zz17_step4 (N : Nat) (m : Nat) (kX : St → Option (Bool × Unit)) (kO : Nat → St → Option (Bool × Unit)) (n0 : Int) (p1 : Y4) (x5 : Int) : zz17_R4 N (m + 1) (zz17_E4 kX kO) n0 p1 x5 = zz17_b4 (zz17_R4 N m (zz17_E4 kX kO)) (zz17_X4 kX) n0 p1 x5 := by kernel_rfl
theorem zz17_iter4 (N : Nat) (kX : St → Option (Bool × Unit)) (kO : Nat → St → Option (Bool × Unit)) : ∀ (n : Nat) (n0 : Int) (p1 : Y4) (x5 : Int), zz17_R4 N n (zz17_E4 kX kO) n0 p1 x5 = zz17_l4 N (zz17_X4 kX) n n0 p1 x5
  | 0, _, _, _ => rfl
  | m + 1, n0, p1, x5 => by
    have hrec : zz17_R4 N m (zz17_E4 kX kO) = (zz17_l4 N (zz17_X4 kX) m) := (funext fun n0 => (funext fun p1 => (funext fun x5 => zz17_iter4 N kX kO m n0 p1 x5)))
    refine (zz17_step4 N m kX kO n0 p1 x5).trans ?_
    rw [hrec]
    rfl
noncomputable abbrev zz17_K4 (N : Nat) : Ex → St → Option (Bool × Unit) := (blockK 0 (seqK ((A_zz17).shape 17) (run (A_zz17) N (codeAt Try.f35 [1, 1, 1])) zz17_z))
noncomputable abbrev zz17_k4 (N : Nat) : St → Option (Bool × Unit) := fun st' => run (A_zz17) N (codeAt Try.f35 [1, 1, 1]) st' zz17_z
theorem zz17_after4 (N : Nat) : zz17_X4 (zz17_k4 N) = zz17_a4 := by kernel_rfl
theorem zz17_in4 (N : Nat) (n0 : Int) (p1 : Y4) (x5 : Int) : zz17_R4 N N (zz17_K4 N) n0 p1 x5 = zz17_F4 N n0 p1 x5 :=
  have h : zz17_X4 (zz17_k4 N) = (zz17_a4) := zz17_after4 N
  ((iter_ex (fun st => by kernel_rfl) (fun st => by kernel_rfl)).trans (zz17_iter4 N (zz17_k4 N) (fun j st => (zz17_K4 N) (.exit j) st) N n0 p1 x5)).trans (congrArg (fun k => zz17_l4 N k N n0 p1 x5) h)
theorem run0_zz17 (N : Nat) (x : (S_zz17).a.den) : runF (A_zz17) N Try.f35 S_zz17 x = (zz17_s (zz17_R4 N N (zz17_K4 N)) x.1 x.2.1) := by kernel_rfl
theorem run_zz17 (N : Nat) (x : (S_zz17).a.den) : runF (A_zz17) N Try.f35 S_zz17 x = zz17 N x.1 x.2.1 := by
  refine (run0_zz17 N x).trans ?_
  rw [(funext fun n0 => (funext fun p1 => (funext fun x5 => zz17_in4 N n0 p1 x5)))]
  rfl
theorem fn_zz17 : FnOk Try.prog 35 := ⟨_, Try.func35, by kernel_rfl, by kernel_rfl⟩
theorem good_zz17 : Gx.Good Try.prog 35 S_zz17 := good_of_run Try.func35 (of_decide_eq_true (by kernel_rfl)) fun x r h => ⟨A_zz17, big, mkCfg_ok tabOk, mkCfg_sigs (show SigsOk Try.prog [(48, S_zz6)] from ⟨⟨fn_zz6, good_zz6⟩, trivial⟩), (run_zz17 big x).trans h⟩

/-! zz18 -/
def zz18_s (l_0 : Y4) : Option (Y4 × Unit) :=
  (appI [] l_0).bind fun xq1 =>
  some (xq1, (()))
def zz18 (l_0 : Y4) : Option (Y4 × Unit) := zz18_s l_0
def S_zz18 : Sig := { a := (.pair (.sl I) .unit), md := [0], mf := [], m := .unit, r := (.sl I), rf := (.o .i), f := fun x => zz18 x.1 }
def A_zz18 : Cfg := mkCfg tab [] []
theorem run_zz18 (N : Nat) (x : (S_zz18).a.den) : runF (A_zz18) N Try.f49 S_zz18 x = zz18 x.1 := by kernel_rfl
theorem fn_zz18 : FnOk Try.prog 49 := ⟨_, Try.func49, by kernel_rfl, by kernel_rfl⟩
theorem good_zz18 : Gx.Good Try.prog 49 S_zz18 := good_of_run Try.func49 (of_decide_eq_true (by kernel_rfl)) fun x r h => ⟨A_zz18, big, mkCfg_ok tabOk, mkCfg_sigs (show SigsOk Try.prog [] from trivial), (run_zz18 big x).trans h⟩

/-! zz19 -/
def zz19_b3 (rec : Int → Int → Y4 → Int → Option (Y4 × Unit)) (k : Y4 → Option (Y4 × Unit)) (n0 : Int) (at2 : Int) (out7 : Y4) (i8 : Int) : Option (Y4 × Unit) :=
  cond (decide ((0 : Int) ≤ i8))
  ((remI at2 n0).bind fun xq3 =>
  (atI out7 i8).bind fun _ =>
  (out7[i8.toNat]?).bind fun xq4 =>
  (quoI IntKind.i64 at2 n0).bind fun xq5 =>
  rec n0 xq5 (out7.set i8.toNat xq3) (IntKind.i64.wrap (i8 - (1 : Int))))
  (k out7)
def zz19_a3 (out7 : Y4) : Option (Y4 × Unit) :=
  some (out7, (()))
def zz19_s (L3 : Int → Int → Y4 → Int → Option (Y4 × Unit)) (n_0 : Int) (arity_1 : Int) (at_2 : Int) : Option (Y4 × Unit) :=
  (mkI (0 : Int) arity_1).bind fun xq1 => (mkI (0 : Int) arity_1).bind fun xq2 => cond (decide (arity_1 ≤ arity_1))
  (L3 n_0 at_2 xq2 (IntKind.i64.wrap (arity_1 - (1 : Int))))
  none
def zz19_l3 (N : Nat) (k : Y4 → Option (Y4 × Unit)) : Nat → Int → Int → Y4 → Int → Option (Y4 × Unit)
  | 0, _, _, _, _ => none
  | m + 1, n0, at2, out7, i8 => zz19_b3 (zz19_l3 N k m) k n0 at2 out7 i8
def zz19_F3 (N : Nat) (n0 : Int) (at2 : Int) (out7 : Y4) (i8 : Int) : Option (Y4 × Unit) := zz19_l3 N (zz19_a3) N n0 at2 out7 i8
def zz19 (N : Nat) (n_0 : Int) (arity_1 : Int) (at_2 : Int) : Option (Y4 × Unit) := zz19_s (zz19_F3 N) n_0 arity_1 at_2
def S_zz19 : Sig := { a := (.pair I (.pair I (.pair I .unit))), md := [0, 0, 0], mf := [], m := .unit, r := (.sl I), rf := (.o .i), f := fun x => zz19 big x.1 x.2.1 x.2.2.1 }
def A_zz19 : Cfg := mkCfg tab [] [(6, [.as I .i, .drop, .as I .i, .drop, .drop, .drop, .drop, .as (.sl I) (.o .i), .as I .i]), (15, [.drop, .drop, .drop, .drop, .drop, .drop, .drop, .as (.sl I) (.o .i)])]
noncomputable def zz19_R3 (N n : Nat) (K : Ex → St → Option (Y4 × Unit)) (n0 : Int) (at2 : Int) (out7 : Y4) (i8 : Int) : Option (Y4 × Unit) := iter ((A_zz19).shape 6) (run (A_zz19) N (codeAt Try.f50 [1, 1, 0, 1, 0, 0])) n ([.val I .i n0, .u, .val I .i at2, .u, .u, .u, .u, .val (.sl I) (.o .i) out7, .val I .i i8] ++ List.replicate 18 .u) K
noncomputable abbrev zz19_z : Ex → St → Option (Y4 × Unit) := finish (A_zz19) S_zz19 Try.f50.results.toList
noncomputable abbrev zz19_X3 (kX : St → Option (Y4 × Unit)) : Y4 → Option (Y4 × Unit) := fun (out7 : Y4) => kX ([.u, .u, .u, .u, .u, .u, .u, .val (.sl I) (.o .i) out7] ++ List.replicate 19 .u)
noncomputable abbrev zz19_E3 (kX : St → Option (Y4 × Unit)) (kO : Nat → St → Option (Y4 × Unit)) : Ex → St → Option (Y4 × Unit) := exK zz19_z 0 ((A_zz19).shape 15) kX kO
theorem zz19_step3 (N : Nat) (m : Nat) (kX : St → Option (Y4 × Unit)) (kO : Nat → St → Option (Y4 × Unit)) (n0 : Int) (at2 : Int) (out7 : Y4) (i8 : Int) : zz19_R3 N (m + 1) (zz19_E3 kX kO) n0 at2 out7 i8 = zz19_b3 (zz19_R3 N m (zz19_E3 kX kO)) (zz19_X3 kX) n0 at2 out7 i8 := by kernel_rfl
theorem zz19_iter3 (N : Nat) (kX : St → Option (Y4 × Unit)) (kO : Nat → St → Option (Y4 × Unit)) : ∀ (n : Nat) (n0 : Int) (at2 : Int) (out7 : Y4) (i8 : Int), zz19_R3 N n (zz19_E3 kX kO) n0 at2 out7 i8 = zz19_l3 N (zz19_X3 kX) n n0 at2 out7 i8
  | 0, _, _, _, _ => rfl
  | m + 1, n0, at2, out7, i8 => by
    have hrec : zz19_R3 N m (zz19_E3 kX kO) = (zz19_l3 N (zz19_X3 kX) m) := (funext fun n0 => (funext fun at2 => (funext fun out7 => (funext fun i8 => zz19_iter3 N kX kO m n0 at2 out7 i8))))
    refine (zz19_step3 N m kX kO n0 at2 out7 i8).trans ?_
    rw [hrec]
    rfl
noncomputable abbrev zz19_K3 (N : Nat) : Ex → St → Option (Y4 × Unit) := (blockK 0 (seqK ((A_zz19).shape 15) (run (A_zz19) N (codeAt Try.f50 [1, 1, 1])) zz19_z))
noncomputable abbrev zz19_k3 (N : Nat) : St → Option (Y4 × Unit) := fun st' => run (A_zz19) N (codeAt Try.f50 [1, 1, 1]) st' zz19_z
theorem zz19_after3 (N : Nat) (out7 : Y4) : zz19_X3 (zz19_k3 N) out7 = zz19_a3 out7 := by kernel_rfl
theorem zz19_in3 (N : Nat) (n0 : Int) (at2 : Int) (out7 : Y4) (i8 : Int) : zz19_R3 N N (zz19_K3 N) n0 at2 out7 i8 = zz19_F3 N n0 at2 out7 i8 :=
  have h : zz19_X3 (zz19_k3 N) = (zz19_a3) := (funext fun out7 => zz19_after3 N out7)
  ((iter_ex (fun st => by kernel_rfl) (fun st => by kernel_rfl)).trans (zz19_iter3 N (zz19_k3 N) (fun j st => (zz19_K3 N) (.exit j) st) N n0 at2 out7 i8)).trans (congrArg (fun k => zz19_l3 N k N n0 at2 out7 i8) h)
theorem run0_zz19 (N : Nat) (x : (S_zz19).a.den) : runF (A_zz19) N Try.f50 S_zz19 x = (zz19_s (zz19_R3 N N (zz19_K3 N)) x.1 x.2.1 x.2.2.1) := by kernel_rfl
theorem run_zz19 (N : Nat) (x : (S_zz19).a.den) : runF (A_zz19) N Try.f50 S_zz19 x = zz19 N x.1 x.2.1 x.2.2.1 := by
  refine (run0_zz19 N x).trans ?_
  rw [(funext fun n0 => (funext fun at2 => (funext fun out7 => (funext fun i8 => zz19_in3 N n0 at2 out7 i8))))]
  rfl
theorem fn_zz19 : FnOk Try.prog 50 := ⟨_, Try.func50, by kernel_rfl, by kernel_rfl⟩
theorem good_zz19 : Gx.Good Try.prog 50 S_zz19 := good_of_run Try.func50 (of_decide_eq_true (by kernel_rfl)) fun x r h => ⟨A_zz19, big, mkCfg_ok tabOk, mkCfg_sigs (show SigsOk Try.prog [] from trivial), (run_zz19 big x).trans h⟩

/-! zz20 -/
def zz20_b3 (rec : Int → Y4 → Y7 → Int → Int → Option (Int × Unit)) (k : Int → Y7 → Int → Option (Int × Unit)) (op1 : Int) (args2 : Y4) (a3 : Y7) (at7 : Int) (i8 : Int) : Option (Int × Unit) :=
  cond (decide (i8 < (args2.length : Int)))
  ((atI args2 i8).bind fun xq1 =>
  rec op1 args2 a3 (IntKind.i64.wrap ((IntKind.i64.wrap (at7 * a3.1)) + xq1)) (IntKind.i64.wrap (i8 + (1 : Int))))
  (k op1 a3 at7)
def zz20_a3 (op1 : Int) (a3 : Y7) (at7 : Int) : Option (Int × Unit) :=
  (atI a3.2.1 op1).bind fun xq2 =>
  (atI xq2.2.1 at7).bind fun xq3 =>
  some (xq3, (()))
def zz20_s (L3 : Int → Y4 → Y7 → Int → Int → Option (Int × Unit)) (a_0 : Y7) (op_1 : Int) (args_2 : Y4) : Option (Int × Unit) :=
  L3 op_1 args_2 a_0 (0 : Int) (0 : Int)
def zz20_l3 (N : Nat) (k : Int → Y7 → Int → Option (Int × Unit)) : Nat → Int → Y4 → Y7 → Int → Int → Option (Int × Unit)
  | 0, _, _, _, _, _ => none
  | m + 1, op1, args2, a3, at7, i8 => zz20_b3 (zz20_l3 N k m) k op1 args2 a3 at7 i8
def zz20_F3 (N : Nat) (op1 : Int) (args2 : Y4) (a3 : Y7) (at7 : Int) (i8 : Int) : Option (Int × Unit) := zz20_l3 N (zz20_a3) N op1 args2 a3 at7 i8
def zz20 (N : Nat) (a_0 : Y7) (op_1 : Int) (args_2 : Y4) : Option (Int × Unit) := zz20_s (zz20_F3 N) a_0 op_1 args_2
def S_zz20 : Sig := { a := (.pair (.pair I (.pair (.sl (.pair I (.pair (.sl I) .unit))) .unit)) (.pair I (.pair (.sl I) .unit))), md := [0, 0, 0], mf := [], m := .unit, r := I, rf := .i, f := fun x => zz20 big x.1 x.2.1 x.2.2.1 }
def A_zz20 : Cfg := mkCfg tab [] [(6, [.drop, .as I .i, .as (.sl I) .i, .as (.ptr (.pair I (.pair (.sl (.pair I (.pair (.sl I) .unit))) .unit))) (.o .i), .drop, .drop, .drop, .as I .i, .as I .i]), (13, [.drop, .as I .i, .drop, .as (.ptr (.pair I (.pair (.sl (.pair I (.pair (.sl I) .unit))) .unit))) (.o .i), .drop, .drop, .drop, .as I .i])]
noncomputable def zz20_R3 (N n : Nat) (K : Ex → St → Option (Int × Unit)) (op1 : Int) (args2 : Y4) (a3 : Y7) (at7 : Int) (i8 : Int) : Option (Int × Unit) := iter ((A_zz20).shape 6) (run (A_zz20) N (codeAt Try.f52 [1, 1, 0, 1, 0, 0])) n ([.u, .val I .i op1, .val (.sl I) .i args2, .val (.ptr (.pair I (.pair (.sl (.pair I (.pair (.sl I) .unit))) .unit))) (.o .i) a3, .u, .u, .u, .val I .i at7, .val I .i i8] ++ List.replicate 24 .u) K
noncomputable abbrev zz20_z : Ex → St → Option (Int × Unit) := finish (A_zz20) S_zz20 Try.f52.results.toList
noncomputable abbrev zz20_X3 (kX : St → Option (Int × Unit)) : Int → Y7 → Int → Option (Int × Unit) := fun (op1 : Int) (a3 : Y7) (at7 : Int) => kX ([.u, .val I .i op1, .u, .val (.ptr (.pair I (.pair (.sl (.pair I (.pair (.sl I) .unit))) .unit))) (.o .i) a3, .u, .u, .u, .val I .i at7] ++ List.replicate 25 .u)
noncomputable abbrev zz20_E3 (kX : St → Option (Int × Unit)) (kO : Nat → St → Option (Int × Unit)) : Ex → St → Option (Int × Unit) := exK zz20_z 0 ((A_zz20).shape 13) kX kO
theorem zz20_step3 (N : Nat) (m : Nat) (kX : St → Option (Int × Unit)) (kO : Nat → St → Option (Int × Unit)) (op1 : Int) (args2 : Y4) (a3 : Y7) (at7 : Int) (i8 : Int) : zz20_R3 N (m + 1) (zz20_E3 kX kO) op1 args2 a3 at7 i8 = zz20_b3 (zz20_R3 N m (zz20_E3 kX kO)) (zz20_X3 kX) op1 args2 a3 at7 i8 := by kernel_rfl
theorem zz20_iter3 (N : Nat) (kX : St → Option (Int × Unit)) (kO : Nat → St → Option (Int × Unit)) : ∀ (n : Nat) (op1 : Int) (args2 : Y4) (a3 : Y7) (at7 : Int) (i8 : Int), zz20_R3 N n (zz20_E3 kX kO) op1 args2 a3 at7 i8 = zz20_l3 N (zz20_X3 kX) n op1 args2 a3 at7 i8
  | 0, _, _, _, _, _ => rfl
  | m + 1, op1, args2, a3, at7, i8 => by
    have hrec : zz20_R3 N m (zz20_E3 kX kO) = (zz20_l3 N (zz20_X3 kX) m) := (funext fun op1 => (funext fun args2 => (funext fun a3 => (funext fun at7 => (funext fun i8 => zz20_iter3 N kX kO m op1 args2 a3 at7 i8)))))
    refine (zz20_step3 N m kX kO op1 args2 a3 at7 i8).trans ?_
    rw [hrec]
    rfl
noncomputable abbrev zz20_K3 (N : Nat) : Ex → St → Option (Int × Unit) := (blockK 0 (seqK ((A_zz20).shape 13) (run (A_zz20) N (codeAt Try.f52 [1, 1, 1])) zz20_z))
noncomputable abbrev zz20_k3 (N : Nat) : St → Option (Int × Unit) := fun st' => run (A_zz20) N (codeAt Try.f52 [1, 1, 1]) st' zz20_z
theorem zz20_after3 (N : Nat) (op1 : Int) (a3 : Y7) (at7 : Int) : zz20_X3 (zz20_k3 N) op1 a3 at7 = zz20_a3 op1 a3 at7 := by kernel_rfl
theorem zz20_in3 (N : Nat) (op1 : Int) (args2 : Y4) (a3 : Y7) (at7 : Int) (i8 : Int) : zz20_R3 N N (zz20_K3 N) op1 args2 a3 at7 i8 = zz20_F3 N op1 args2 a3 at7 i8 :=
  have h : zz20_X3 (zz20_k3 N) = (zz20_a3) := (funext fun op1 => (funext fun a3 => (funext fun at7 => zz20_after3 N op1 a3 at7)))
  ((iter_ex (fun st => by kernel_rfl) (fun st => by kernel_rfl)).trans (zz20_iter3 N (zz20_k3 N) (fun j st => (zz20_K3 N) (.exit j) st) N op1 args2 a3 at7 i8)).trans (congrArg (fun k => zz20_l3 N k N op1 args2 a3 at7 i8) h)
theorem run0_zz20 (N : Nat) (x : (S_zz20).a.den) : runF (A_zz20) N Try.f52 S_zz20 x = (zz20_s (zz20_R3 N N (zz20_K3 N)) x.1 x.2.1 x.2.2.1) := by kernel_rfl
theorem run_zz20 (N : Nat) (x : (S_zz20).a.den) : runF (A_zz20) N Try.f52 S_zz20 x = zz20 N x.1 x.2.1 x.2.2.1 := by
  refine (run0_zz20 N x).trans ?_
  rw [(funext fun op1 => (funext fun args2 => (funext fun a3 => (funext fun at7 => (funext fun i8 => zz20_in3 N op1 args2 a3 at7 i8)))))]
  rfl
theorem fn_zz20 : FnOk Try.prog 52 := ⟨_, Try.func52, by kernel_rfl, by kernel_rfl⟩
theorem good_zz20 : Gx.Good Try.prog 52 S_zz20 := good_of_run Try.func52 (of_decide_eq_true (by kernel_rfl)) fun x r h => ⟨A_zz20, big, mkCfg_ok tabOk, mkCfg_sigs (show SigsOk Try.prog [] from trivial), (run_zz20 big x).trans h⟩

/-! zz21 -/
def zz21_s (a_0 : Int) (b_1 : Int) : Option (Int × Unit) :=
  cond (decide (a_0 < b_1))
  (some (a_0, (())))
  (some (b_1, (())))
def zz21 (a_0 : Int) (b_1 : Int) : Option (Int × Unit) := zz21_s a_0 b_1
def S_zz21 : Sig := { a := (.pair I (.pair I .unit)), md := [0, 0], mf := [], m := .unit, r := I, rf := .i, f := fun x => zz21 x.1 x.2.1 }
def A_zz21 : Cfg := mkCfg tab [] []
theorem run_zz21 (N : Nat) (x : (S_zz21).a.den) : runF (A_zz21) N Try.f59 S_zz21 x = zz21 x.1 x.2.1 := by kernel_rfl
theorem fn_zz21 : FnOk Try.prog 59 := ⟨_, Try.func59, by kernel_rfl, by kernel_rfl⟩
theorem good_zz21 : Gx.Good Try.prog 59 S_zz21 := good_of_run Try.func59 (of_decide_eq_true (by kernel_rfl)) fun x r h => ⟨A_zz21, big, mkCfg_ok tabOk, mkCfg_sigs (show SigsOk Try.prog [] from trivial), (run_zz21 big x).trans h⟩

/-! zz22 -/
def zz22_s (a_0 : Int) (b_1 : Int) : Option (Int × Unit) :=
  cond (decide (b_1 < a_0))
  (some (a_0, (())))
  (some (b_1, (())))
def zz22 (a_0 : Int) (b_1 : Int) : Option (Int × Unit) := zz22_s a_0 b_1
def S_zz22 : Sig := { a := (.pair I (.pair I .unit)), md := [0, 0], mf := [], m := .unit, r := I, rf := .i, f := fun x => zz22 x.1 x.2.1 }
def A_zz22 : Cfg := mkCfg tab [] []
theorem run_zz22 (N : Nat) (x : (S_zz22).a.den) : runF (A_zz22) N Try.f60 S_zz22 x = zz22 x.1 x.2.1 := by kernel_rfl
theorem fn_zz22 : FnOk Try.prog 60 := ⟨_, Try.func60, by kernel_rfl, by kernel_rfl⟩
theorem good_zz22 : Gx.Good Try.prog 60 S_zz22 := good_of_run Try.func60 (of_decide_eq_true (by kernel_rfl)) fun x r h => ⟨A_zz22, big, mkCfg_ok tabOk, mkCfg_sigs (show SigsOk Try.prog [] from trivial), (run_zz22 big x).trans h⟩

/-! zz23 -/
def zz23_b4 (rec : Y4 → Int → Int → Y4 → Int → Option (Y4 × Unit)) (k : Y4 → Option (Y4 × Unit)) (p0 : Y4) (low7 : Int) (high8 : Int) (out9 : Y4) (z10 : Int) : Option (Y4 × Unit) :=
  cond (decide (z10 < (p0.length : Int)))
  ((atI p0 z10).bind fun xq7 =>
  cond (decide (xq7 = high8))
  ((appI out9 [low7]).bind fun xq8 =>
  rec p0 low7 high8 xq8 (IntKind.i64.wrap (z10 + (1 : Int))))
  ((atI p0 z10).bind fun xq9 =>
  (appI out9 [xq9]).bind fun xq10 =>
  rec p0 low7 high8 xq10 (IntKind.i64.wrap (z10 + (1 : Int)))))
  (k out9)
def zz23_a4 (out9 : Y4) : Option (Y4 × Unit) :=
  some (out9, (()))
def zz23_s (L4 : Y4 → Int → Int → Y4 → Int → Option (Y4 × Unit)) (p_0 : Y4) (x_1 : Int) (y_2 : Int) : Option (Y4 × Unit) :=
  (atI p_0 x_1).bind fun xq1 =>
  (atI p_0 y_2).bind fun xq2 =>
  (zz21 xq1 xq2).bind fun rq3 =>
  (atI p_0 x_1).bind fun xq4 =>
  (atI p_0 y_2).bind fun xq5 =>
  (zz22 xq4 xq5).bind fun rq6 =>
  L4 p_0 rq3.1 rq6.1 [] (0 : Int)
def zz23_l4 (N : Nat) (k : Y4 → Option (Y4 × Unit)) : Nat → Y4 → Int → Int → Y4 → Int → Option (Y4 × Unit)
  | 0, _, _, _, _, _ => none
  | m + 1, p0, low7, high8, out9, z10 => zz23_b4 (zz23_l4 N k m) k p0 low7 high8 out9 z10
def zz23_F4 (N : Nat) (p0 : Y4) (low7 : Int) (high8 : Int) (out9 : Y4) (z10 : Int) : Option (Y4 × Unit) := zz23_l4 N (zz23_a4) N p0 low7 high8 out9 z10
def zz23 (N : Nat) (p_0 : Y4) (x_1 : Int) (y_2 : Int) : Option (Y4 × Unit) := zz23_s (zz23_F4 N) p_0 x_1 y_2
def S_zz23 : Sig := { a := (.pair (.sl I) (.pair I (.pair I .unit))), md := [0, 0, 0], mf := [], m := .unit, r := (.sl I), rf := (.o .i), f := fun x => zz23 big x.1 x.2.1 x.2.2.1 }
def A_zz23 : Cfg := mkCfg tab [(59, S_zz21), (60, S_zz22)] [(8, [.as (.sl I) .i, .drop, .drop, .drop, .drop, .drop, .drop, .as I .i, .as I .i, .as (.sl I) (.o .i), .as I .i]), (19, [.drop, .drop, .drop, .drop, .drop, .drop, .drop, .drop, .drop, .as (.sl I) (.o .i)])]
noncomputable def zz23_R4 (N n : Nat) (K : Ex → St → Option (Y4 × Unit)) (p0 : Y4) (low7 : Int) (high8 : Int) (out9 : Y4) (z10 : Int) : Option (Y4 × Unit) := iter ((A_zz23).shape 8) (run (A_zz23) N (codeAt Try.f51 [1, 1, 1, 0, 1, 0, 0])) n ([.val (.sl I) .i p0, .u, .u, .u, .u, .u, .u, .val I .i low7, .val I .i high8, .val (.sl I) (.o .i) out9, .val I .i z10] ++ List.replicate 43 .u) K
noncomputable abbrev zz23_z : Ex → St → Option (Y4 × Unit) := finish (A_zz23) S_zz23 Try.f51.results.toList
noncomputable abbrev zz23_X4 (kX : St → Option (Y4 × Unit)) : Y4 → Option (Y4 × Unit) := fun (out9 : Y4) => kX ([.u, .u, .u, .u, .u, .u, .u, .u, .u, .val (.sl I) (.o .i) out9] ++ List.replicate 44 .u)
noncomputable abbrev zz23_E4 (kX : St → Option (Y4 × Unit)) (kO : Nat → St → Option (Y4 × Unit)) : Ex → St → Option (Y4 × Unit) := exK zz23_z 0 ((A_zz23).shape 19) kX kO
theorem zz23_step4 (N : Nat) (m : Nat) (kX : St → Option (Y4 × Unit)) (kO : Nat → St → Option (Y4 × Unit)) (p0 : Y4) (low7 : Int) (high8 : Int) (out9 : Y4) (z10 : Int) : zz23_R4 N (m + 1) (zz23_E4 kX kO) p0 low7 high8 out9 z10 = zz23_b4 (zz23_R4 N m (zz23_E4 kX kO)) (zz23_X4 kX) p0 low7 high8 out9 z10 := by kernel_rfl
theorem zz23_iter4 (N : Nat) (kX : St → Option (Y4 × Unit)) (kO : Nat → St → Option (Y4 × Unit)) : ∀ (n : Nat) (p0 : Y4) (low7 : Int) (high8 : Int) (out9 : Y4) (z10 : Int), zz23_R4 N n (zz23_E4 kX kO) p0 low7 high8 out9 z10 = zz23_l4 N (zz23_X4 kX) n p0 low7 high8 out9 z10
  | 0, _, _, _, _, _ => rfl
  | m + 1, p0, low7, high8, out9, z10 => by
    have hrec : zz23_R4 N m (zz23_E4 kX kO) = (zz23_l4 N (zz23_X4 kX) m) := (funext fun p0 => (funext fun low7 => (funext fun high8 => (funext fun out9 => (funext fun z10 => zz23_iter4 N kX kO m p0 low7 high8 out9 z10)))))
    refine (zz23_step4 N m kX kO p0 low7 high8 out9 z10).trans ?_
    rw [hrec]
    rfl
noncomputable abbrev zz23_K4 (N : Nat) : Ex → St → Option (Y4 × Unit) := (blockK 0 (seqK ((A_zz23).shape 19) (run (A_zz23) N (codeAt Try.f51 [1, 1, 1, 1])) zz23_z))
noncomputable abbrev zz23_k4 (N : Nat) : St → Option (Y4 × Unit) := fun st' => run (A_zz23) N (codeAt Try.f51 [1, 1, 1, 1]) st' zz23_z
theorem zz23_after4 (N : Nat) (out9 : Y4) : zz23_X4 (zz23_k4 N) out9 = zz23_a4 out9 := by kernel_rfl
theorem zz23_in4 (N : Nat) (p0 : Y4) (low7 : Int) (high8 : Int) (out9 : Y4) (z10 : Int) : zz23_R4 N N (zz23_K4 N) p0 low7 high8 out9 z10 = zz23_F4 N p0 low7 high8 out9 z10 :=
  have h : zz23_X4 (zz23_k4 N) = (zz23_a4) := (funext fun out9 => zz23_after4 N out9)
  ((iter_ex (fun st => by kernel_rfl) (fun st => by kernel_rfl)).trans (zz23_iter4 N (zz23_k4 N) (fun j st => (zz23_K4 N) (.exit j) st) N p0 low7 high8 out9 z10)).trans (congrArg (fun k => zz23_l4 N k N p0 low7 high8 out9 z10) h)
theorem run0_zz23 (N : Nat) (x : (S_zz23).a.den) : runF (A_zz23) N Try.f51 S_zz23 x = (zz23_s (zz23_R4 N N (zz23_K4 N)) x.1 x.2.1 x.2.2.1) := by kernel_rfl
theorem run_zz23 (N : Nat) (x : (S_zz23).a.den) : runF (A_zz23) N Try.f51 S_zz23 x = zz23 N x.1 x.2.1 x.2.2.1 := by
  refine (run0_zz23 N x).trans ?_
  rw [(funext fun p0 => (funext fun low7 => (funext fun high8 => (funext fun out9 => (funext fun z10 => zz23_in4 N p0 low7 high8 out9 z10)))))]
  rfl
theorem fn_zz23 : FnOk Try.prog 51 := ⟨_, Try.func51, by kernel_rfl, by kernel_rfl⟩
theorem good_zz23 : Gx.Good Try.prog 51 S_zz23 := good_of_run Try.func51 (of_decide_eq_true (by kernel_rfl)) fun x r h => ⟨A_zz23, big, mkCfg_ok tabOk, mkCfg_sigs (show SigsOk Try.prog [(59, S_zz21), (60, S_zz22)] from ⟨⟨fn_zz21, good_zz21⟩, ⟨fn_zz22, good_zz22⟩, trivial⟩), (run_zz23 big x).trans h⟩

/-! zz24 -/
def zz24_b10 (rec : Y4 → Y7 → Y4 → Int → Int → Y4 → Int → Option (Y4 × Unit)) (k : Y4 → Y7 → Y4 → Int → Int → Option (Y4 × Unit)) (p1 : Y4) (a2 : Y7) (out5 : Y4) (op6 : Int) (at7 : Int) (args8 : Y4) (k9 : Int) : Option (Y4 × Unit) :=
  cond (decide (k9 < (args8.length : Int)))
  ((zz18 args8).bind fun rq5 =>
  (atI args8 k9).bind fun _ =>
  (args8[k9.toNat]?).bind fun xq6 =>
  (atI p1 xq6).bind fun xq7 =>
  (atI rq5.1 k9).bind fun _ =>
  (rq5.1[k9.toNat]?).bind fun xq8 =>
  (atI a2.2.1 op6).bind fun xq9 =>
  (atI xq9.2.1 at7).bind fun xq10 =>
  (zz20 big a2 op6 (rq5.1.set k9.toNat xq7)).bind fun rq11 =>
  (zz23 big out5 xq10 rq11.1).bind fun rq12 =>
  rec p1 a2 rq12.1 op6 at7 args8 (IntKind.i64.wrap (k9 + (1 : Int))))
  (k p1 a2 out5 op6 at7)
def zz24_a10 (rec : Y4 → Y7 → Y4 → Int → Int → Option (Y4 × Unit)) (p1 : Y4) (a2 : Y7) (out5 : Y4) (op6 : Int) (at7 : Int) : Option (Y4 × Unit) :=
  rec p1 a2 out5 op6 (IntKind.i64.wrap (at7 + (1 : Int)))
def zz24_b6 (L10 : Y4 → Y7 → Y4 → Int → Int → Y4 → Int → Option (Y4 × Unit)) (k : Y4 → Y7 → Y4 → Int → Option (Y4 × Unit)) (p1 : Y4) (a2 : Y7) (out5 : Y4) (op6 : Int) (at7 : Int) : Option (Y4 × Unit) :=
  (atI a2.2.1 op6).bind fun xq2 =>
  cond (decide (at7 < (xq2.2.1.length : Int)))
  ((atI a2.2.1 op6).bind fun xq3 =>
  (zz19 big a2.1 xq3.1 at7).bind fun rq4 =>
  L10 p1 a2 out5 op6 at7 rq4.1 (0 : Int))
  (k p1 a2 out5 op6)
def zz24_a6 (rec : Y4 → Y7 → Y4 → Int → Option (Y4 × Unit)) (p1 : Y4) (a2 : Y7) (out5 : Y4) (op6 : Int) : Option (Y4 × Unit) :=
  rec p1 a2 out5 (IntKind.i64.wrap (op6 + (1 : Int)))
def zz24_b3 (L6 : Y4 → Y7 → Y4 → Int → Int → Option (Y4 × Unit)) (k : Y4 → Option (Y4 × Unit)) (p1 : Y4) (a2 : Y7) (out5 : Y4) (op6 : Int) : Option (Y4 × Unit) :=
  cond (decide (op6 < (a2.2.1.length : Int)))
  (L6 p1 a2 out5 op6 (0 : Int))
  (k out5)
def zz24_a3 (out5 : Y4) : Option (Y4 × Unit) :=
  some (out5, (()))
def zz24_s (L3 : Y4 → Y7 → Y4 → Int → Option (Y4 × Unit)) (a_0 : Y7) (p_1 : Y4) : Option (Y4 × Unit) :=
  (zz18 p_1).bind fun rq1 =>
  L3 p_1 a_0 rq1.1 (0 : Int)
def zz24_l10 (N : Nat) (k : Y4 → Y7 → Y4 → Int → Int → Option (Y4 × Unit)) : Nat → Y4 → Y7 → Y4 → Int → Int → Y4 → Int → Option (Y4 × Unit)
  | 0, _, _, _, _, _, _, _ => none
  | m + 1, p1, a2, out5, op6, at7, args8, k9 => zz24_b10 (zz24_l10 N k m) k p1 a2 out5 op6 at7 args8 k9
def zz24_F10 (N : Nat) (rec : Y4 → Y7 → Y4 → Int → Int → Option (Y4 × Unit)) (k : Y4 → Y7 → Y4 → Int → Option (Y4 × Unit)) (p1 : Y4) (a2 : Y7) (out5 : Y4) (op6 : Int) (at7 : Int) (args8 : Y4) (k9 : Int) : Option (Y4 × Unit) := zz24_l10 N (zz24_a10 rec) N p1 a2 out5 op6 at7 args8 k9
def zz24_l6 (N : Nat) (k : Y4 → Y7 → Y4 → Int → Option (Y4 × Unit)) : Nat → Y4 → Y7 → Y4 → Int → Int → Option (Y4 × Unit)
  | 0, _, _, _, _, _ => none
  | m + 1, p1, a2, out5, op6, at7 => zz24_b6 (zz24_F10 N (zz24_l6 N k m) k) k p1 a2 out5 op6 at7
def zz24_F6 (N : Nat) (rec : Y4 → Y7 → Y4 → Int → Option (Y4 × Unit)) (k : Y4 → Option (Y4 × Unit)) (p1 : Y4) (a2 : Y7) (out5 : Y4) (op6 : Int) (at7 : Int) : Option (Y4 × Unit) := zz24_l6 N (zz24_a6 rec) N p1 a2 out5 op6 at7
def zz24_l3 (N : Nat) (k : Y4 → Option (Y4 × Unit)) : Nat → Y4 → Y7 → Y4 → Int → Option (Y4 × Unit)
  | 0, _, _, _, _ => none
  | m + 1, p1, a2, out5, op6 => zz24_b3 (zz24_F6 N (zz24_l3 N k m) k) k p1 a2 out5 op6
def zz24_F3 (N : Nat) (p1 : Y4) (a2 : Y7) (out5 : Y4) (op6 : Int) : Option (Y4 × Unit) := zz24_l3 N (zz24_a3) N p1 a2 out5 op6
def zz24 (N : Nat) (a_0 : Y7) (p_1 : Y4) : Option (Y4 × Unit) := zz24_s (zz24_F3 N) a_0 p_1
def S_zz24 : Sig := { a := (.pair (.pair I (.pair (.sl (.pair I (.pair (.sl I) .unit))) .unit)) (.pair (.sl I) .unit)), md := [0, 0], mf := [], m := .unit, r := (.sl I), rf := (.o .i), f := fun x => zz24 big x.1 x.2.1 }
def A_zz24 : Cfg := mkCfg tab [(49, S_zz18), (50, S_zz19), (52, S_zz20), (51, S_zz23)] [(6, [.drop, .as (.sl I) .i, .as (.ptr (.pair I (.pair (.sl (.pair I (.pair (.sl I) .unit))) .unit))) (.o .i), .drop, .drop, .as (.sl I) (.o .i), .as I .i]), (12, [.drop, .as (.sl I) .i, .as (.ptr (.pair I (.pair (.sl (.pair I (.pair (.sl I) .unit))) .unit))) (.o .i), .drop, .drop, .as (.sl I) (.o .i), .as I .i, .as I .i]), (31, [.drop, .drop, .drop, .drop, .drop, .as (.sl I) (.o .i)]), (20, [.drop, .as (.sl I) .i, .as (.ptr (.pair I (.pair (.sl (.pair I (.pair (.sl I) .unit))) .unit))) (.o .i), .drop, .drop, .as (.sl I) (.o .i), .as I .i, .as I .i, .as (.sl I) (.o .i), .as I .i]), (9, [.drop, .as (.sl I) .i, .as (.ptr (.pair I (.pair (.sl (.pair I (.pair (.sl I) .unit))) .unit))) (.o .i), .drop, .drop, .as (.sl I) (.o .i), .as I .i]), (15, [.drop, .as (.sl I) .i, .as (.ptr (.pair I (.pair (.sl (.pair I (.pair (.sl I) .unit))) .unit))) (.o .i), .drop, .drop, .as (.sl I) (.o .i), .as I .i, .as I .i])]
noncomputable def zz24_R3 (N n : Nat) (K : Ex → St → Option (Y4 × Unit)) (p1 : Y4) (a2 : Y7) (out5 : Y4) (op6 : Int) : Option (Y4 × Unit) := iter ((A_zz24).shape 6) (run (A_zz24) N (codeAt Try.f37 [1, 1, 0, 1, 0, 0])) n ([.u, .val (.sl I) .i p1, .val (.ptr (.pair I (.pair (.sl (.pair I (.pair (.sl I) .unit))) .unit))) (.o .i) a2, .u, .u, .val (.sl I) (.o .i) out5, .val I .i op6] ++ List.replicate 68 .u) K
noncomputable def zz24_R6 (N n : Nat) (K : Ex → St → Option (Y4 × Unit)) (p1 : Y4) (a2 : Y7) (out5 : Y4) (op6 : Int) (at7 : Int) : Option (Y4 × Unit) := iter ((A_zz24).shape 12) (run (A_zz24) N (codeAt Try.f37 [1, 1, 0, 1, 0, 0, 1, 0, 0, 1, 0, 0])) n ([.u, .val (.sl I) .i p1, .val (.ptr (.pair I (.pair (.sl (.pair I (.pair (.sl I) .unit))) .unit))) (.o .i) a2, .u, .u, .val (.sl I) (.o .i) out5, .val I .i op6, .val I .i at7] ++ List.replicate 67 .u) K
noncomputable def zz24_R10 (N n : Nat) (K : Ex → St → Option (Y4 × Unit)) (p1 : Y4) (a2 : Y7) (out5 : Y4) (op6 : Int) (at7 : Int) (args8 : Y4) (k9 : Int) : Option (Y4 × Unit) := iter ((A_zz24).shape 20) (run (A_zz24) N (codeAt Try.f37 [1, 1, 0, 1, 0, 0, 1, 0, 0, 1, 0, 0, 1, 0, 0, 1, 1, 0, 0])) n ([.u, .val (.sl I) .i p1, .val (.ptr (.pair I (.pair (.sl (.pair I (.pair (.sl I) .unit))) .unit))) (.o .i) a2, .u, .u, .val (.sl I) (.o .i) out5, .val I .i op6, .val I .i at7, .val (.sl I) (.o .i) args8, .val I .i k9] ++ List.replicate 65 .u) K
noncomputable abbrev zz24_z : Ex → St → Option (Y4 × Unit) := finish (A_zz24) S_zz24 Try.f37.results.toList
noncomputable abbrev zz24_X3 (kX : St → Option (Y4 × Unit)) : Y4 → Option (Y4 × Unit) := fun (out5 : Y4) => kX ([.u, .u, .u, .u, .u, .val (.sl I) (.o .i) out5] ++ List.replicate 69 .u)
noncomputable abbrev zz24_E3 (kX : St → Option (Y4 × Unit)) (kO : Nat → St → Option (Y4 × Unit)) : Ex → St → Option (Y4 × Unit) := exK zz24_z 0 ((A_zz24).shape 31) kX kO
noncomputable abbrev zz24_X6 (kX : St → Option (Y4 × Unit)) : Y4 → Y7 → Y4 → Int → Option (Y4 × Unit) := fun (p1 : Y4) (a2 : Y7) (out5 : Y4) (op6 : Int) => kX ([.u, .val (.sl I) .i p1, .val (.ptr (.pair I (.pair (.sl (.pair I (.pair (.sl I) .unit))) .unit))) (.o .i) a2, .u, .u, .val (.sl I) (.o .i) out5, .val I .i op6] ++ List.replicate 68 .u)
noncomputable abbrev zz24_E6 (kX : St → Option (Y4 × Unit)) (kO : Nat → St → Option (Y4 × Unit)) : Ex → St → Option (Y4 × Unit) := exK zz24_z 2 ((A_zz24).shape 9) kX kO
noncomputable abbrev zz24_X10 (kX : St → Option (Y4 × Unit)) : Y4 → Y7 → Y4 → Int → Int → Option (Y4 × Unit) := fun (p1 : Y4) (a2 : Y7) (out5 : Y4) (op6 : Int) (at7 : Int) => kX ([.u, .val (.sl I) .i p1, .val (.ptr (.pair I (.pair (.sl (.pair I (.pair (.sl I) .unit))) .unit))) (.o .i) a2, .u, .u, .val (.sl I) (.o .i) out5, .val I .i op6, .val I .i at7] ++ List.replicate 67 .u)
noncomputable abbrev zz24_E10 (kX : St → Option (Y4 × Unit)) (kO : Nat → St → Option (Y4 × Unit)) : Ex → St → Option (Y4 × Unit) := exK zz24_z 4 ((A_zz24).shape 15) kX kO
theorem zz24_step10 (N : Nat) (m : Nat) (kX : St → Option (Y4 × Unit)) (kO : Nat → St → Option (Y4 × Unit)) (p1 : Y4) (a2 : Y7) (out5 : Y4) (op6 : Int) (at7 : Int) (args8 : Y4) (k9 : Int) : zz24_R10 N (m + 1) (zz24_E10 kX kO) p1 a2 out5 op6 at7 args8 k9 = zz24_b10 (zz24_R10 N m (zz24_E10 kX kO)) (zz24_X10 kX) p1 a2 out5 op6 at7 args8 k9 := by kernel_rfl
theorem zz24_iter10 (N : Nat) (kX : St → Option (Y4 × Unit)) (kO : Nat → St → Option (Y4 × Unit)) : ∀ (n : Nat) (p1 : Y4) (a2 : Y7) (out5 : Y4) (op6 : Int) (at7 : Int) (args8 : Y4) (k9 : Int), zz24_R10 N n (zz24_E10 kX kO) p1 a2 out5 op6 at7 args8 k9 = zz24_l10 N (zz24_X10 kX) n p1 a2 out5 op6 at7 args8 k9
  | 0, _, _, _, _, _, _, _ => rfl
  | m + 1, p1, a2, out5, op6, at7, args8, k9 => by
    have hrec : zz24_R10 N m (zz24_E10 kX kO) = (zz24_l10 N (zz24_X10 kX) m) := (funext fun p1 => (funext fun a2 => (funext fun out5 => (funext fun op6 => (funext fun at7 => (funext fun args8 => (funext fun k9 => zz24_iter10 N kX kO m p1 a2 out5 op6 at7 args8 k9)))))))
    refine (zz24_step10 N m kX kO p1 a2 out5 op6 at7 args8 k9).trans ?_
    rw [hrec]
    rfl
noncomputable abbrev zz24_K10 (N : Nat) (m : Nat) (kX : St → Option (Y4 × Unit)) (kO : Nat → St → Option (Y4 × Unit)) : Ex → St → Option (Y4 × Unit) := (blockK 4 (blockK 3 (seqK ((A_zz24).shape 15) (run (A_zz24) N (codeAt Try.f37 [1, 1, 0, 1, 0, 0, 1, 0, 0, 1, 0, 0, 1, 1])) (iterK ((A_zz24).shape 12) (run (A_zz24) N (codeAt Try.f37 [1, 1, 0, 1, 0, 0, 1, 0, 0, 1, 0, 0])) m (zz24_E6 kX kO)))))
noncomputable abbrev zz24_k10 (N : Nat) (m : Nat) (kX : St → Option (Y4 × Unit)) (kO : Nat → St → Option (Y4 × Unit)) : St → Option (Y4 × Unit) := fun st' => run (A_zz24) N (codeAt Try.f37 [1, 1, 0, 1, 0, 0, 1, 0, 0, 1, 0, 0, 1, 1]) st' (iterK ((A_zz24).shape 12) (run (A_zz24) N (codeAt Try.f37 [1, 1, 0, 1, 0, 0, 1, 0, 0, 1, 0, 0])) m (zz24_E6 kX kO))
theorem zz24_after10 (N : Nat) (m : Nat) (kX : St → Option (Y4 × Unit)) (kO : Nat → St → Option (Y4 × Unit)) (p1 : Y4) (a2 : Y7) (out5 : Y4) (op6 : Int) (at7 : Int) : zz24_X10 (zz24_k10 N m kX kO) p1 a2 out5 op6 at7 = zz24_a10 (zz24_R6 N m (zz24_E6 kX kO)) p1 a2 out5 op6 at7 := by kernel_rfl
theorem zz24_in10 (N : Nat) (m : Nat) (kX : St → Option (Y4 × Unit)) (kO : Nat → St → Option (Y4 × Unit)) (recF : Y4 → Y7 → Y4 → Int → Int → Option (Y4 × Unit)) (hrec : zz24_R6 N m (zz24_E6 kX kO) = recF) (p1 : Y4) (a2 : Y7) (out5 : Y4) (op6 : Int) (at7 : Int) (args8 : Y4) (k9 : Int) : zz24_R10 N N (zz24_K10 N m kX kO) p1 a2 out5 op6 at7 args8 k9 = zz24_F10 N recF (zz24_X6 kX) p1 a2 out5 op6 at7 args8 k9 :=
  have h : zz24_X10 (zz24_k10 N m kX kO) = (zz24_a10 recF) := (funext fun p1 => (funext fun a2 => (funext fun out5 => (funext fun op6 => (funext fun at7 => (zz24_after10 N m kX kO p1 a2 out5 op6 at7).trans (by rw [hrec]))))))
  ((iter_ex (fun st => by kernel_rfl) (fun st => by kernel_rfl)).trans (zz24_iter10 N (zz24_k10 N m kX kO) (fun j st => (zz24_K10 N m kX kO) (.exit j) st) N p1 a2 out5 op6 at7 args8 k9)).trans (congrArg (fun k => zz24_l10 N k N p1 a2 out5 op6 at7 args8 k9) h)
theorem zz24_step6 (N : Nat) (m : Nat) (kX : St → Option (Y4 × Unit)) (kO : Nat → St → Option (Y4 × Unit)) (p1 : Y4) (a2 : Y7) (out5 : Y4) (op6 : Int) (at7 : Int) : zz24_R6 N (m + 1) (zz24_E6 kX kO) p1 a2 out5 op6 at7 = zz24_b6 (zz24_R10 N N (zz24_K10 N m kX kO)) (zz24_X6 kX) p1 a2 out5 op6 at7 := by kernel_rfl
theorem zz24_iter6 (N : Nat) (kX : St → Option (Y4 × Unit)) (kO : Nat → St → Option (Y4 × Unit)) : ∀ (n : Nat) (p1 : Y4) (a2 : Y7) (out5 : Y4) (op6 : Int) (at7 : Int), zz24_R6 N n (zz24_E6 kX kO) p1 a2 out5 op6 at7 = zz24_l6 N (zz24_X6 kX) n p1 a2 out5 op6 at7
  | 0, _, _, _, _, _ => rfl
  | m + 1, p1, a2, out5, op6, at7 => by
    have hrec : zz24_R6 N m (zz24_E6 kX kO) = (zz24_l6 N (zz24_X6 kX) m) := (funext fun p1 => (funext fun a2 => (funext fun out5 => (funext fun op6 => (funext fun at7 => zz24_iter6 N kX kO m p1 a2 out5 op6 at7)))))
    refine (zz24_step6 N m kX kO p1 a2 out5 op6 at7).trans ?_
    rw [(funext fun p1 => (funext fun a2 => (funext fun out5 => (funext fun op6 => (funext fun at7 => (funext fun args8 => (funext fun k9 => zz24_in10 N m kX kO (zz24_l6 N (zz24_X6 kX) m) hrec p1 a2 out5 op6 at7 args8 k9)))))))]
    rfl
noncomputable abbrev zz24_K6 (N : Nat) (m : Nat) (kX : St → Option (Y4 × Unit)) (kO : Nat → St → Option (Y4 × Unit)) : Ex → St → Option (Y4 × Unit) := (blockK 2 (blockK 1 (seqK ((A_zz24).shape 9) (run (A_zz24) N (codeAt Try.f37 [1, 1, 0, 1, 0, 0, 1, 1])) (iterK ((A_zz24).shape 6) (run (A_zz24) N (codeAt Try.f37 [1, 1, 0, 1, 0, 0])) m (zz24_E3 kX kO)))))
noncomputable abbrev zz24_k6 (N : Nat) (m : Nat) (kX : St → Option (Y4 × Unit)) (kO : Nat → St → Option (Y4 × Unit)) : St → Option (Y4 × Unit) := fun st' => run (A_zz24) N (codeAt Try.f37 [1, 1, 0, 1, 0, 0, 1, 1]) st' (iterK ((A_zz24).shape 6) (run (A_zz24) N (codeAt Try.f37 [1, 1, 0, 1, 0, 0])) m (zz24_E3 kX kO))
theorem zz24_after6 (N : Nat) (m : Nat) (kX : St → Option (Y4 × Unit)) (kO : Nat → St → Option (Y4 × Unit)) (p1 : Y4) (a2 : Y7) (out5 : Y4) (op6 : Int) : zz24_X6 (zz24_k6 N m kX kO) p1 a2 out5 op6 = zz24_a6 (zz24_R3 N m (zz24_E3 kX kO)) p1 a2 out5 op6 := by kernel_rfl
theorem zz24_in6 (N : Nat) (m : Nat) (kX : St → Option (Y4 × Unit)) (kO : Nat → St → Option (Y4 × Unit)) (recF : Y4 → Y7 → Y4 → Int → Option (Y4 × Unit)) (hrec : zz24_R3 N m (zz24_E3 kX kO) = recF) (p1 : Y4) (a2 : Y7) (out5 : Y4) (op6 : Int) (at7 : Int) : zz24_R6 N N (zz24_K6 N m kX kO) p1 a2 out5 op6 at7 = zz24_F6 N recF (zz24_X3 kX) p1 a2 out5 op6 at7 :=
  have h : zz24_X6 (zz24_k6 N m kX kO) = (zz24_a6 recF) := (funext fun p1 => (funext fun a2 => (funext fun out5 => (funext fun op6 => (zz24_after6 N m kX kO p1 a2 out5 op6).trans (by rw [hrec])))))
  ((iter_ex (fun st => by kernel_rfl) (fun st => by kernel_rfl)).trans (zz24_iter6 N (zz24_k6 N m kX kO) (fun j st => (zz24_K6 N m kX kO) (.exit j) st) N p1 a2 out5 op6 at7)).trans (congrArg (fun k => zz24_l6 N k N p1 a2 out5 op6 at7) h)
theorem zz24_step3 (N : Nat) (m : Nat) (kX : St → Option (Y4 × Unit)) (kO : Nat → St → Option (Y4 × Unit)) (p1 : Y4) (a2 : Y7) (out5 : Y4) (op6 : Int) : zz24_R3 N (m + 1) (zz24_E3 kX kO) p1 a2 out5 op6 = zz24_b3 (zz24_R6 N N (zz24_K6 N m kX kO)) (zz24_X3 kX) p1 a2 out5 op6 := by kernel_rfl
theorem zz24_iter3 (N : Nat) (kX : St → Option (Y4 × Unit)) (kO : Nat → St → Option (Y4 × Unit)) : ∀ (n : Nat) (p1 : Y4) (a2 : Y7) (out5 : Y4) (op6 : Int), zz24_R3 N n (zz24_E3 kX kO) p1 a2 out5 op6 = zz24_l3 N (zz24_X3 kX) n p1 a2 out5 op6
  | 0, _, _, _, _ => rfl
  | m + 1, p1, a2, out5, op6 => by
    have hrec : zz24_R3 N m (zz24_E3 kX kO) = (zz24_l3 N (zz24_X3 kX) m) := (funext fun p1 => (funext fun a2 => (funext fun out5 => (funext fun op6 => zz24_iter3 N kX kO m p1 a2 out5 op6))))
    refine (zz24_step3 N m kX kO p1 a2 out5 op6).trans ?_
    rw [(funext fun p1 => (funext fun a2 => (funext fun out5 => (funext fun op6 => (funext fun at7 => zz24_in6 N m kX kO (zz24_l3 N (zz24_X3 kX) m) hrec p1 a2 out5 op6 at7)))))]
    rfl
noncomputable abbrev zz24_K3 (N : Nat) : Ex → St → Option (Y4 × Unit) := (blockK 0 (seqK ((A_zz24).shape 31) (run (A_zz24) N (codeAt Try.f37 [1, 1, 1])) zz24_z))
noncomputable abbrev zz24_k3 (N : Nat) : St → Option (Y4 × Unit) := fun st' => run (A_zz24) N (codeAt Try.f37 [1, 1, 1]) st' zz24_z
theorem zz24_after3 (N : Nat) (out5 : Y4) : zz24_X3 (zz24_k3 N) out5 = zz24_a3 out5 := by kernel_rfl
theorem zz24_in3 (N : Nat) (p1 : Y4) (a2 : Y7) (out5 : Y4) (op6 : Int) : zz24_R3 N N (zz24_K3 N) p1 a2 out5 op6 = zz24_F3 N p1 a2 out5 op6 :=
  have h : zz24_X3 (zz24_k3 N) = (zz24_a3) := (funext fun out5 => zz24_after3 N out5)
  ((iter_ex (fun st => by kernel_rfl) (fun st => by kernel_rfl)).trans (zz24_iter3 N (zz24_k3 N) (fun j st => (zz24_K3 N) (.exit j) st) N p1 a2 out5 op6)).trans (congrArg (fun k => zz24_l3 N k N p1 a2 out5 op6) h)
theorem run0_zz24 (N : Nat) (x : (S_zz24).a.den) : runF (A_zz24) N Try.f37 S_zz24 x = (zz24_s (zz24_R3 N N (zz24_K3 N)) x.1 x.2.1) := by kernel_rfl
theorem run_zz24 (N : Nat) (x : (S_zz24).a.den) : runF (A_zz24) N Try.f37 S_zz24 x = zz24 N x.1 x.2.1 := by
  refine (run0_zz24 N x).trans ?_
  rw [(funext fun p1 => (funext fun a2 => (funext fun out5 => (funext fun op6 => zz24_in3 N p1 a2 out5 op6))))]
  rfl
theorem fn_zz24 : FnOk Try.prog 37 := ⟨_, Try.func37, by kernel_rfl, by kernel_rfl⟩
theorem good_zz24 : Gx.Good Try.prog 37 S_zz24 := good_of_run Try.func37 (of_decide_eq_true (by kernel_rfl)) fun x r h => ⟨A_zz24, big, mkCfg_ok tabOk, mkCfg_sigs (show SigsOk Try.prog [(49, S_zz18), (50, S_zz19), (52, S_zz20), (51, S_zz23)] from ⟨⟨fn_zz18, good_zz18⟩, ⟨fn_zz19, good_zz19⟩, ⟨fn_zz20, good_zz20⟩, ⟨fn_zz23, good_zz23⟩, trivial⟩), (run_zz24 big x).trans h⟩

/-! zz25 -/
def zz25_b4 (rec : Y4 → Y4 → Int → Option (Bool × Unit)) (k : Option (Bool × Unit)) (a0 : Y4) (b1 : Y4) (i5 : Int) : Option (Bool × Unit) :=
  cond (decide (i5 < (a0.length : Int)))
  ((atI a0 i5).bind fun xq1 =>
  (atI b1 i5).bind fun xq2 =>
  cond (decide (xq1 ≠ xq2))
  (some (false, (())))
  (rec a0 b1 (IntKind.i64.wrap (i5 + (1 : Int)))))
  (k)
def zz25_a4 : Option (Bool × Unit) :=
  some (true, (()))
def zz25_s (L4 : Y4 → Y4 → Int → Option (Bool × Unit)) (a_0 : Y4) (b_1 : Y4) : Option (Bool × Unit) :=
  cond (decide ((a_0.length : Int) ≠ (b_1.length : Int)))
  (some (false, (())))
  (L4 a_0 b_1 (0 : Int))
def zz25_l4 (N : Nat) (k : Option (Bool × Unit)) : Nat → Y4 → Y4 → Int → Option (Bool × Unit)
  | 0, _, _, _ => none
  | m + 1, a0, b1, i5 => zz25_b4 (zz25_l4 N k m) k a0 b1 i5
def zz25_F4 (N : Nat) (a0 : Y4) (b1 : Y4) (i5 : Int) : Option (Bool × Unit) := zz25_l4 N (zz25_a4) N a0 b1 i5
def zz25 (N : Nat) (a_0 : Y4) (b_1 : Y4) : Option (Bool × Unit) := zz25_s (zz25_F4 N) a_0 b_1
def S_zz25 : Sig := { a := (.pair (.sl I) (.pair (.sl I) .unit)), md := [0, 0], mf := [], m := .unit, r := .bool, rf := .i, f := fun x => zz25 big x.1 x.2.1 }
def A_zz25 : Cfg := mkCfg tab [] [(8, [.as (.sl I) .i, .as (.sl I) .i, .drop, .drop, .drop, .as I .i]), (17, [])]
noncomputable def zz25_R4 (N n : Nat) (K : Ex → St → Option (Bool × Unit)) (a0 : Y4) (b1 : Y4) (i5 : Int) : Option (Bool × Unit) := iter ((A_zz25).shape 8) (run (A_zz25) N (codeAt Try.f36 [1, 1, 0, 1, 0, 0])) n ([.val (.sl I) .i a0, .val (.sl I) .i b1, .u, .u, .u, .val I .i i5] ++ List.replicate 20 .u) K
noncomputable abbrev zz25_z : Ex → St → Option (Bool × Unit) := finish (A_zz25) S_zz25 Try.f36.results.toList
noncomputable abbrev zz25_X4 (kX : St → Option (Bool × Unit)) : Option (Bool × Unit) := kX ([] ++ List.replicate 26 .u)
noncomputable abbrev zz25_E4 (kX : St → Option (Bool × Unit)) (kO : Nat → St → Option (Bool × Unit)) : Ex → St → Option (Bool × Unit) := exK zz25_z 0 ((A_zz25).shape 17) kX kO
theorem zz25_step4 (N : Nat) (m : Nat) (kX : St → Option (Bool × Unit)) (kO : Nat → St → Option (Bool × Unit)) (a0 : Y4) (b1 : Y4) (i5 : Int) : zz25_R4 N (m + 1) (zz25_E4 kX kO) a0 b1 i5 = zz25_b4 (zz25_R4 N m (zz25_E4 kX kO)) (zz25_X4 kX) a0 b1 i5 := by kernel_rfl
theorem zz25_iter4 (N : Nat) (kX : St → Option (Bool × Unit)) (kO : Nat → St → Option (Bool × Unit)) : ∀ (n : Nat) (a0 : Y4) (b1 : Y4) (i5 : Int), zz25_R4 N n (zz25_E4 kX kO) a0 b1 i5 = zz25_l4 N (zz25_X4 kX) n a0 b1 i5
  | 0, _, _, _ => rfl
  | m + 1, a0, b1, i5 => by
    have hrec : zz25_R4 N m (zz25_E4 kX kO) = (zz25_l4 N (zz25_X4 kX) m) := (funext fun a0 => (funext fun b1 => (funext fun i5 => zz25_iter4 N kX kO m a0 b1 i5)))
    refine (zz25_step4 N m kX kO a0 b1 i5).trans ?_
    rw [hrec]
    rfl
noncomputable abbrev zz25_K4 (N : Nat) : Ex → St → Option (Bool × Unit) := (blockK 0 (seqK ((A_zz25).shape 17) (run (A_zz25) N (codeAt Try.f36 [1, 1, 1])) zz25_z))
noncomputable abbrev zz25_k4 (N : Nat) : St → Option (Bool × Unit) := fun st' => run (A_zz25) N (codeAt Try.f36 [1, 1, 1]) st' zz25_z
theorem zz25_after4 (N : Nat) : zz25_X4 (zz25_k4 N) = zz25_a4 := by kernel_rfl
theorem zz25_in4 (N : Nat) (a0 : Y4) (b1 : Y4) (i5 : Int) : zz25_R4 N N (zz25_K4 N) a0 b1 i5 = zz25_F4 N a0 b1 i5 :=
  have h : zz25_X4 (zz25_k4 N) = (zz25_a4) := zz25_after4 N
  ((iter_ex (fun st => by kernel_rfl) (fun st => by kernel_rfl)).trans (zz25_iter4 N (zz25_k4 N) (fun j st => (zz25_K4 N) (.exit j) st) N a0 b1 i5)).trans (congrArg (fun k => zz25_l4 N k N a0 b1 i5) h)
theorem run0_zz25 (N : Nat) (x : (S_zz25).a.den) : runF (A_zz25) N Try.f36 S_zz25 x = (zz25_s (zz25_R4 N N (zz25_K4 N)) x.1 x.2.1) := by kernel_rfl
theorem run_zz25 (N : Nat) (x : (S_zz25).a.den) : runF (A_zz25) N Try.f36 S_zz25 x = zz25 N x.1 x.2.1 := by
  refine (run0_zz25 N x).trans ?_
  rw [(funext fun a0 => (funext fun b1 => (funext fun i5 => zz25_in4 N a0 b1 i5)))]
  rfl
theorem fn_zz25 : FnOk Try.prog 36 := ⟨_, Try.func36, by kernel_rfl, by kernel_rfl⟩
theorem good_zz25 : Gx.Good Try.prog 36 S_zz25 := good_of_run Try.func36 (of_decide_eq_true (by kernel_rfl)) fun x r h => ⟨A_zz25, big, mkCfg_ok tabOk, mkCfg_sigs (show SigsOk Try.prog [] from trivial), (run_zz25 big x).trans h⟩

/-! zz26 -/
def zz26_s (a_0 : Y7) (p_1 : Y4) : Option (Bool × Unit) :=
  (zz17 big a_0.1 p_1).bind fun rq1 =>
  cond rq1.1
  ((zz24 big a_0 p_1).bind fun rq2 =>
  (zz25 big rq2.1 p_1).bind fun rq3 =>
  some (rq3.1, (())))
  (some (false, (())))
def zz26 (a_0 : Y7) (p_1 : Y4) : Option (Bool × Unit) := zz26_s a_0 p_1
def S_zz26 : Sig := { a := (.pair (.pair I (.pair (.sl (.pair I (.pair (.sl I) .unit))) .unit)) (.pair (.sl I) .unit)), md := [0, 0], mf := [], m := .unit, r := .bool, rf := .i, f := fun x => zz26 x.1 x.2.1 }
def A_zz26 : Cfg := mkCfg tab [(35, S_zz17), (37, S_zz24), (36, S_zz25)] []
theorem run_zz26 (N : Nat) (x : (S_zz26).a.den) : runF (A_zz26) N Try.f18 S_zz26 x = zz26 x.1 x.2.1 := by kernel_rfl
theorem fn_zz26 : FnOk Try.prog 18 := ⟨_, Try.func18, by kernel_rfl, by kernel_rfl⟩
theorem good_zz26 : Gx.Good Try.prog 18 S_zz26 := good_of_run Try.func18 (of_decide_eq_true (by kernel_rfl)) fun x r h => ⟨A_zz26, big, mkCfg_ok tabOk, mkCfg_sigs (show SigsOk Try.prog [(35, S_zz17), (37, S_zz24), (36, S_zz25)] from ⟨⟨fn_zz17, good_zz17⟩, ⟨fn_zz24, good_zz24⟩, ⟨fn_zz25, good_zz25⟩, trivial⟩), (run_zz26 big x).trans h⟩

/-! zz27 -/
def zz27_b8 (rec : Y4 → Y3 → Int → Y4 → Int → Option Y2) (k : Y4 → Y3 → Int → Y4 → Option Y2) (p0 : Y4) (out3 : Y3) (x4 : Int) (block5 : Y4) (y6 : Int) : Option Y2 :=
  cond (decide (y6 < (p0.length : Int)))
  ((atI p0 y6).bind fun xq2 =>
  cond (decide (xq2 = x4))
  ((appI block5 [y6]).bind fun xq3 =>
  rec p0 out3 x4 xq3 (IntKind.i64.wrap (y6 + (1 : Int))))
  (rec p0 out3 x4 block5 (IntKind.i64.wrap (y6 + (1 : Int)))))
  (k p0 out3 x4 block5)
def zz27_a8 (rec : Y4 → Y3 → Int → Option Y2) (p0 : Y4) (out3 : Y3) (x4 : Int) (block5 : Y4) : Option Y2 :=
  (appI out3 [block5]).bind fun xq4 =>
  rec p0 xq4 (IntKind.i64.wrap (x4 + (1 : Int)))
def zz27_b3 (rec : Y4 → Y3 → Int → Option Y2) (L8 : Y4 → Y3 → Int → Y4 → Int → Option Y2) (k : Y3 → Option Y2) (p0 : Y4) (out3 : Y3) (x4 : Int) : Option Y2 :=
  cond (decide (x4 < (p0.length : Int)))
  ((atI p0 x4).bind fun xq1 =>
  cond (decide (xq1 ≠ x4))
  (rec p0 out3 (IntKind.i64.wrap (x4 + (1 : Int))))
  (L8 p0 out3 x4 [] x4))
  (k out3)
def zz27_a3 (out3 : Y3) : Option Y2 :=
  some (out3, (()))
def zz27_s (L3 : Y4 → Y3 → Int → Option Y2) (p_0 : Y4) : Option Y2 :=
  L3 p_0 [] (0 : Int)
def zz27_l8 (N : Nat) (k : Y4 → Y3 → Int → Y4 → Option Y2) : Nat → Y4 → Y3 → Int → Y4 → Int → Option Y2
  | 0, _, _, _, _, _ => none
  | m + 1, p0, out3, x4, block5, y6 => zz27_b8 (zz27_l8 N k m) k p0 out3 x4 block5 y6
def zz27_F8 (N : Nat) (rec : Y4 → Y3 → Int → Option Y2) (k : Y3 → Option Y2) (p0 : Y4) (out3 : Y3) (x4 : Int) (block5 : Y4) (y6 : Int) : Option Y2 := zz27_l8 N (zz27_a8 rec) N p0 out3 x4 block5 y6
def zz27_l3 (N : Nat) (k : Y3 → Option Y2) : Nat → Y4 → Y3 → Int → Option Y2
  | 0, _, _, _ => none
  | m + 1, p0, out3, x4 => zz27_b3 (zz27_l3 N k m) (zz27_F8 N (zz27_l3 N k m) k) k p0 out3 x4
def zz27_F3 (N : Nat) (p0 : Y4) (out3 : Y3) (x4 : Int) : Option Y2 := zz27_l3 N (zz27_a3) N p0 out3 x4
def zz27 (N : Nat) (p_0 : Y4) : Option Y2 := zz27_s (zz27_F3 N) p_0
def S_zz27 : Sig := { a := (.pair (.sl I) .unit), md := [0], mf := [], m := .unit, r := (.sl (.sl I)), rf := (.o (.o .i)), f := fun x => zz27 big x.1 }
def A_zz27 : Cfg := mkCfg tab [] [(6, [.as (.sl I) .i, .drop, .drop, .as (.sl (.sl I)) (.o (.o .i)), .as I .i]), (16, [.as (.sl I) .i, .drop, .drop, .as (.sl (.sl I)) (.o (.o .i)), .as I .i, .as (.sl I) (.o .i), .as I .i]), (27, [.drop, .drop, .drop, .as (.sl (.sl I)) (.o (.o .i))]), (25, [.as (.sl I) .i, .drop, .drop, .as (.sl (.sl I)) (.o (.o .i)), .as I .i, .as (.sl I) (.o .i)])]
noncomputable def zz27_R3 (N n : Nat) (K : Ex → St → Option Y2) (p0 : Y4) (out3 : Y3) (x4 : Int) : Option Y2 := iter ((A_zz27).shape 6) (run (A_zz27) N (codeAt Try.f20 [1, 1, 0, 1, 0, 0])) n ([.val (.sl I) .i p0, .u, .u, .val (.sl (.sl I)) (.o (.o .i)) out3, .val I .i x4] ++ List.replicate 38 .u) K
noncomputable def zz27_R8 (N n : Nat) (K : Ex → St → Option Y2) (p0 : Y4) (out3 : Y3) (x4 : Int) (block5 : Y4) (y6 : Int) : Option Y2 := iter ((A_zz27).shape 16) (run (A_zz27) N (codeAt Try.f20 [1, 1, 0, 1, 0, 0, 1, 0, 0, 1, 1, 0, 1, 0, 0])) n ([.val (.sl I) .i p0, .u, .u, .val (.sl (.sl I)) (.o (.o .i)) out3, .val I .i x4, .val (.sl I) (.o .i) block5, .val I .i y6] ++ List.replicate 36 .u) K
noncomputable abbrev zz27_z : Ex → St → Option Y2 := finish (A_zz27) S_zz27 Try.f20.results.toList
noncomputable abbrev zz27_X3 (kX : St → Option Y2) : Y3 → Option Y2 := fun (out3 : Y3) => kX ([.u, .u, .u, .val (.sl (.sl I)) (.o (.o .i)) out3] ++ List.replicate 39 .u)
noncomputable abbrev zz27_E3 (kX : St → Option Y2) (kO : Nat → St → Option Y2) : Ex → St → Option Y2 := exK zz27_z 0 ((A_zz27).shape 27) kX kO
noncomputable abbrev zz27_X8 (kX : St → Option Y2) : Y4 → Y3 → Int → Y4 → Option Y2 := fun (p0 : Y4) (out3 : Y3) (x4 : Int) (block5 : Y4) => kX ([.val (.sl I) .i p0, .u, .u, .val (.sl (.sl I)) (.o (.o .i)) out3, .val I .i x4, .val (.sl I) (.o .i) block5] ++ List.replicate 37 .u)
noncomputable abbrev zz27_E8 (kX : St → Option Y2) (kO : Nat → St → Option Y2) : Ex → St → Option Y2 := exK zz27_z 2 ((A_zz27).shape 25) kX kO
theorem zz27_step8 (N : Nat) (m : Nat) (kX : St → Option Y2) (kO : Nat → St → Option Y2) (p0 : Y4) (out3 : Y3) (x4 : Int) (block5 : Y4) (y6 : Int) : zz27_R8 N (m + 1) (zz27_E8 kX kO) p0 out3 x4 block5 y6 = zz27_b8 (zz27_R8 N m (zz27_E8 kX kO)) (zz27_X8 kX) p0 out3 x4 block5 y6 := by kernel_rfl
theorem zz27_iter8 (N : Nat) (kX : St → Option Y2) (kO : Nat → St → Option Y2) : ∀ (n : Nat) (p0 : Y4) (out3 : Y3) (x4 : Int) (block5 : Y4) (y6 : Int), zz27_R8 N n (zz27_E8 kX kO) p0 out3 x4 block5 y6 = zz27_l8 N (zz27_X8 kX) n p0 out3 x4 block5 y6
  | 0, _, _, _, _, _ => rfl
  | m + 1, p0, out3, x4, block5, y6 => by
    have hrec : zz27_R8 N m (zz27_E8 kX kO) = (zz27_l8 N (zz27_X8 kX) m) := (funext fun p0 => (funext fun out3 => (funext fun x4 => (funext fun block5 => (funext fun y6 => zz27_iter8 N kX kO m p0 out3 x4 block5 y6)))))
    refine (zz27_step8 N m kX kO p0 out3 x4 block5 y6).trans ?_
    rw [hrec]
    rfl
noncomputable abbrev zz27_K8 (N : Nat) (m : Nat) (kX : St → Option Y2) (kO : Nat → St → Option Y2) : Ex → St → Option Y2 := (blockK 2 (seqK ((A_zz27).shape 25) (run (A_zz27) N (codeAt Try.f20 [1, 1, 0, 1, 0, 0, 1, 0, 0, 1, 1, 1])) (blockK 1 (seqK ((A_zz27).shape 9) (run (A_zz27) N (codeAt Try.f20 [1, 1, 0, 1, 0, 0, 1, 1])) (iterK ((A_zz27).shape 6) (run (A_zz27) N (codeAt Try.f20 [1, 1, 0, 1, 0, 0])) m (zz27_E3 kX kO))))))
noncomputable abbrev zz27_k8 (N : Nat) (m : Nat) (kX : St → Option Y2) (kO : Nat → St → Option Y2) : St → Option Y2 := fun st' => run (A_zz27) N (codeAt Try.f20 [1, 1, 0, 1, 0, 0, 1, 0, 0, 1, 1, 1]) st' (blockK 1 (seqK ((A_zz27).shape 9) (run (A_zz27) N (codeAt Try.f20 [1, 1, 0, 1, 0, 0, 1, 1])) (iterK ((A_zz27).shape 6) (run (A_zz27) N (codeAt Try.f20 [1, 1, 0, 1, 0, 0])) m (zz27_E3 kX kO))))
theorem zz27_after8 (N : Nat) (m : Nat) (kX : St → Option Y2) (kO : Nat → St → Option Y2) (p0 : Y4) (out3 : Y3) (x4 : Int) (block5 : Y4) : zz27_X8 (zz27_k8 N m kX kO) p0 out3 x4 block5 = zz27_a8 (zz27_R3 N m (zz27_E3 kX kO)) p0 out3 x4 block5 := by kernel_rfl
theorem zz27_in8 (N : Nat) (m : Nat) (kX : St → Option Y2) (kO : Nat → St → Option Y2) (recF : Y4 → Y3 → Int → Option Y2) (hrec : zz27_R3 N m (zz27_E3 kX kO) = recF) (p0 : Y4) (out3 : Y3) (x4 : Int) (block5 : Y4) (y6 : Int) : zz27_R8 N N (zz27_K8 N m kX kO) p0 out3 x4 block5 y6 = zz27_F8 N recF (zz27_X3 kX) p0 out3 x4 block5 y6 :=
  have h : zz27_X8 (zz27_k8 N m kX kO) = (zz27_a8 recF) := (funext fun p0 => (funext fun out3 => (funext fun x4 => (funext fun block5 => (zz27_after8 N m kX kO p0 out3 x4 block5).trans (by rw [hrec])))))
  ((iter_ex (fun st => by kernel_rfl) (fun st => by kernel_rfl)).trans (zz27_iter8 N (zz27_k8 N m kX kO) (fun j st => (zz27_K8 N m kX kO) (.exit j) st) N p0 out3 x4 block5 y6)).trans (congrArg (fun k => zz27_l8 N k N p0 out3 x4 block5 y6) h)
theorem zz27_step3 (N : Nat) (m : Nat) (kX : St → Option Y2) (kO : Nat → St → Option Y2) (p0 : Y4) (out3 : Y3) (x4 : Int) : zz27_R3 N (m + 1) (zz27_E3 kX kO) p0 out3 x4 = zz27_b3 (zz27_R3 N m (zz27_E3 kX kO)) (zz27_R8 N N (zz27_K8 N m kX kO)) (zz27_X3 kX) p0 out3 x4 := by kernel_rfl
theorem zz27_iter3 (N : Nat) (kX : St → Option Y2) (kO : Nat → St → Option Y2) : ∀ (n : Nat) (p0 : Y4) (out3 : Y3) (x4 : Int), zz27_R3 N n (zz27_E3 kX kO) p0 out3 x4 = zz27_l3 N (zz27_X3 kX) n p0 out3 x4
  | 0, _, _, _ => rfl
  | m + 1, p0, out3, x4 => by
    have hrec : zz27_R3 N m (zz27_E3 kX kO) = (zz27_l3 N (zz27_X3 kX) m) := (funext fun p0 => (funext fun out3 => (funext fun x4 => zz27_iter3 N kX kO m p0 out3 x4)))
    refine (zz27_step3 N m kX kO p0 out3 x4).trans ?_
    rw [(funext fun p0 => (funext fun out3 => (funext fun x4 => (funext fun block5 => (funext fun y6 => zz27_in8 N m kX kO (zz27_l3 N (zz27_X3 kX) m) hrec p0 out3 x4 block5 y6))))), hrec]
    rfl
noncomputable abbrev zz27_K3 (N : Nat) : Ex → St → Option Y2 := (blockK 0 (seqK ((A_zz27).shape 27) (run (A_zz27) N (codeAt Try.f20 [1, 1, 1])) zz27_z))
noncomputable abbrev zz27_k3 (N : Nat) : St → Option Y2 := fun st' => run (A_zz27) N (codeAt Try.f20 [1, 1, 1]) st' zz27_z
theorem zz27_after3 (N : Nat) (out3 : Y3) : zz27_X3 (zz27_k3 N) out3 = zz27_a3 out3 := by kernel_rfl
theorem zz27_in3 (N : Nat) (p0 : Y4) (out3 : Y3) (x4 : Int) : zz27_R3 N N (zz27_K3 N) p0 out3 x4 = zz27_F3 N p0 out3 x4 :=
  have h : zz27_X3 (zz27_k3 N) = (zz27_a3) := (funext fun out3 => zz27_after3 N out3)
  ((iter_ex (fun st => by kernel_rfl) (fun st => by kernel_rfl)).trans (zz27_iter3 N (zz27_k3 N) (fun j st => (zz27_K3 N) (.exit j) st) N p0 out3 x4)).trans (congrArg (fun k => zz27_l3 N k N p0 out3 x4) h)
theorem run0_zz27 (N : Nat) (x : (S_zz27).a.den) : runF (A_zz27) N Try.f20 S_zz27 x = (zz27_s (zz27_R3 N N (zz27_K3 N)) x.1) := by kernel_rfl
theorem run_zz27 (N : Nat) (x : (S_zz27).a.den) : runF (A_zz27) N Try.f20 S_zz27 x = zz27 N x.1 := by
  refine (run0_zz27 N x).trans ?_
  rw [(funext fun p0 => (funext fun out3 => (funext fun x4 => zz27_in3 N p0 out3 x4)))]
  rfl
theorem fn_zz27 : FnOk Try.prog 20 := ⟨_, Try.func20, by kernel_rfl, by kernel_rfl⟩
theorem good_zz27 : Gx.Good Try.prog 20 S_zz27 := good_of_run Try.func20 (of_decide_eq_true (by kernel_rfl)) fun x r h => ⟨A_zz27, big, mkCfg_ok tabOk, mkCfg_sigs (show SigsOk Try.prog [] from trivial), (run_zz27 big x).trans h⟩

/-! zz28 -/
def zz28_b6 (rec : Y2 → (List (Int × (Int × Unit))) → Y3 → Int → Option (((List (Int × (Int × Unit))) × (Bool × Unit)) × Unit)) (k : (List (Int × (Int × Unit))) → Option (((List (Int × (Int × Unit))) × (Bool × Unit)) × Unit)) (p2 : Y2) (out6 : (List (Int × (Int × Unit)))) (blocks7 : Y3) (i8 : Int) : Option (((List (Int × (Int × Unit))) × (Bool × Unit)) × Unit) :=
  cond (decide (i8 < (blocks7.length : Int)))
  ((atI blocks7 i8).bind fun _ =>
  (blocks7[i8.toNat]?).bind fun xq5 =>
  (blocks7[i8.toNat]?).bind fun xq6 =>
  (zz13 big p2 xq6).bind fun rq7 =>
  (zz12 big p2).bind fun rq8 =>
  (atI blocks7 i8).bind fun _ =>
  (blocks7[i8.toNat]?).bind fun xq9 =>
  (blocks7[i8.toNat]?).bind fun xq10 =>
  (zz13 big rq8.1 xq10).bind fun rq11 =>
  (appI out6 [(rq7.1, (rq11.1, ()))]).bind fun xq12 =>
  rec p2 xq12 blocks7 (IntKind.i64.wrap (i8 + (1 : Int))))
  (k out6)
def zz28_a6 (out6 : (List (Int × (Int × Unit)))) : Option (((List (Int × (Int × Unit))) × (Bool × Unit)) × Unit) :=
  some ((out6, true, ()), (()))
def zz28_s (L6 : Y2 → (List (Int × (Int × Unit))) → Y3 → Int → Option (((List (Int × (Int × Unit))) × (Bool × Unit)) × Unit)) (p_0 : Y2) (c_1 : Y4) : Option (((List (Int × (Int × Unit))) × (Bool × Unit)) × Unit) :=
  (zz15 p_0).bind fun rq1 =>
  cond (!rq1.1)
  (some (([], false, ()), (())))
  ((zz16 big p_0).bind fun rq2 =>
  (zz26 rq2.1 c_1).bind fun rq3 =>
  cond (!rq3.1)
  (some (([], false, ()), (())))
  ((zz27 big c_1).bind fun rq4 =>
  L6 p_0 [] rq4.1 (0 : Int)))
def zz28_l6 (N : Nat) (k : (List (Int × (Int × Unit))) → Option (((List (Int × (Int × Unit))) × (Bool × Unit)) × Unit)) : Nat → Y2 → (List (Int × (Int × Unit))) → Y3 → Int → Option (((List (Int × (Int × Unit))) × (Bool × Unit)) × Unit)
  | 0, _, _, _, _ => none
  | m + 1, p2, out6, blocks7, i8 => zz28_b6 (zz28_l6 N k m) k p2 out6 blocks7 i8
def zz28_F6 (N : Nat) (p2 : Y2) (out6 : (List (Int × (Int × Unit)))) (blocks7 : Y3) (i8 : Int) : Option (((List (Int × (Int × Unit))) × (Bool × Unit)) × Unit) := zz28_l6 N (zz28_a6) N p2 out6 blocks7 i8
def zz28 (N : Nat) (p_0 : Y2) (c_1 : Y4) : Option (((List (Int × (Int × Unit))) × (Bool × Unit)) × Unit) := zz28_s (zz28_F6 N) p_0 c_1
def S_zz28 : Sig := { a := (.pair (.pair (.sl (.sl I)) .unit) (.pair (.sl I) .unit)), md := [0, 0], mf := [], m := .unit, r := (.tup (.pair (.sl (.pair I (.pair I .unit))) (.pair .bool .unit))), rf := (.p (.o .i) .i), f := fun x => zz28 big x.1 x.2.1 }
def A_zz28 : Cfg := mkCfg tab [(17, S_zz15), (19, S_zz16), (18, S_zz26), (20, S_zz27), (21, S_zz13), (22, S_zz12)] [(12, [.drop, .drop, .as (.ptr (.pair (.sl (.sl I)) .unit)) (.o .i), .drop, .drop, .drop, .as (.sl (.pair I (.pair I .unit))) (.o .i), .as (.sl (.sl I)) (.o (.o .i)), .as I .i]), (19, [.drop, .drop, .drop, .drop, .drop, .drop, .as (.sl (.pair I (.pair I .unit))) (.o .i)])]
noncomputable def zz28_R6 (N n : Nat) (K : Ex → St → Option (((List (Int × (Int × Unit))) × (Bool × Unit)) × Unit)) (p2 : Y2) (out6 : (List (Int × (Int × Unit)))) (blocks7 : Y3) (i8 : Int) : Option (((List (Int × (Int × Unit))) × (Bool × Unit)) × Unit) := iter ((A_zz28).shape 12) (run (A_zz28) N (codeAt Try.f5 [1, 1, 1, 1, 0, 1, 0, 0])) n ([.u, .u, .val (.ptr (.pair (.sl (.sl I)) .unit)) (.o .i) p2, .u, .u, .u, .val (.sl (.pair I (.pair I .unit))) (.o .i) out6, .val (.sl (.sl I)) (.o (.o .i)) blocks7, .val I .i i8] ++ List.replicate 38 .u) K
noncomputable abbrev zz28_z : Ex → St → Option (((List (Int × (Int × Unit))) × (Bool × Unit)) × Unit) := finish (A_zz28) S_zz28 Try.f5.results.toList
noncomputable abbrev zz28_X6 (kX : St → Option (((List (Int × (Int × Unit))) × (Bool × Unit)) × Unit)) : (List (Int × (Int × Unit))) → Option (((List (Int × (Int × Unit))) × (Bool × Unit)) × Unit) := fun (out6 : (List (Int × (Int × Unit)))) => kX ([.u, .u, .u, .u, .u, .u, .val (.sl (.pair I (.pair I .unit))) (.o .i) out6] ++ List.replicate 40 .u)
noncomputable abbrev zz28_E6 (kX : St → Option (((List (Int × (Int × Unit))) × (Bool × Unit)) × Unit)) (kO : Nat → St → Option (((List (Int × (Int × Unit))) × (Bool × Unit)) × Unit)) : Ex → St → Option (((List (Int × (Int × Unit))) × (Bool × Unit)) × Unit) := exK zz28_z 0 ((A_zz28).shape 19) kX kO
theorem zz28_step6 (N : Nat) (m : Nat) (kX : St → Option (((List (Int × (Int × Unit))) × (Bool × Unit)) × Unit)) (kO : Nat → St → Option (((List (Int × (Int × Unit))) × (Bool × Unit)) × Unit)) (p2 : Y2) (out6 : (List (Int × (Int × Unit)))) (blocks7 : Y3) (i8 : Int) : zz28_R6 N (m + 1) (zz28_E6 kX kO) p2 out6 blocks7 i8 = zz28_b6 (zz28_R6 N m (zz28_E6 kX kO)) (zz28_X6 kX) p2 out6 blocks7 i8 := by kernel_rfl
theorem zz28_iter6 (N : Nat) (kX : St → Option (((List (Int × (Int × Unit))) × (Bool × Unit)) × Unit)) (kO : Nat → St → Option (((List (Int × (Int × Unit))) × (Bool × Unit)) × Unit)) : ∀ (n : Nat) (p2 : Y2) (out6 : (List (Int × (Int × Unit)))) (blocks7 : Y3) (i8 : Int), zz28_R6 N n (zz28_E6 kX kO) p2 out6 blocks7 i8 = zz28_l6 N (zz28_X6 kX) n p2 out6 blocks7 i8
  | 0, _, _, _, _ => rfl
  | m + 1, p2, out6, blocks7, i8 => by
    have hrec : zz28_R6 N m (zz28_E6 kX kO) = (zz28_l6 N (zz28_X6 kX) m) := (funext fun p2 => (funext fun out6 => (funext fun blocks7 => (funext fun i8 => zz28_iter6 N kX kO m p2 out6 blocks7 i8))))
    refine (zz28_step6 N m kX kO p2 out6 blocks7 i8).trans ?_
    rw [hrec]
    rfl
noncomputable abbrev zz28_K6 (N : Nat) : Ex → St → Option (((List (Int × (Int × Unit))) × (Bool × Unit)) × Unit) := (blockK 0 (seqK ((A_zz28).shape 19) (run (A_zz28) N (codeAt Try.f5 [1, 1, 1, 1, 1])) zz28_z))
noncomputable abbrev zz28_k6 (N : Nat) : St → Option (((List (Int × (Int × Unit))) × (Bool × Unit)) × Unit) := fun st' => run (A_zz28) N (codeAt Try.f5 [1, 1, 1, 1, 1]) st' zz28_z
theorem zz28_after6 (N : Nat) (out6 : (List (Int × (Int × Unit)))) : zz28_X6 (zz28_k6 N) out6 = zz28_a6 out6 := by kernel_rfl
theorem zz28_in6 (N : Nat) (p2 : Y2) (out6 : (List (Int × (Int × Unit)))) (blocks7 : Y3) (i8 : Int) : zz28_R6 N N (zz28_K6 N) p2 out6 blocks7 i8 = zz28_F6 N p2 out6 blocks7 i8 :=
  have h : zz28_X6 (zz28_k6 N) = (zz28_a6) := (funext fun out6 => zz28_after6 N out6)
  ((iter_ex (fun st => by kernel_rfl) (fun st => by kernel_rfl)).trans (zz28_iter6 N (zz28_k6 N) (fun j st => (zz28_K6 N) (.exit j) st) N p2 out6 blocks7 i8)).trans (congrArg (fun k => zz28_l6 N k N p2 out6 blocks7 i8) h)
theorem run0_zz28 (N : Nat) (x : (S_zz28).a.den) : runF (A_zz28) N Try.f5 S_zz28 x = (zz28_s (zz28_R6 N N (zz28_K6 N)) x.1 x.2.1) := by kernel_rfl
theorem run_zz28 (N : Nat) (x : (S_zz28).a.den) : runF (A_zz28) N Try.f5 S_zz28 x = zz28 N x.1 x.2.1 := by
  refine (run0_zz28 N x).trans ?_
  rw [(funext fun p2 => (funext fun out6 => (funext fun blocks7 => (funext fun i8 => zz28_in6 N p2 out6 blocks7 i8))))]
  rfl
theorem fn_zz28 : FnOk Try.prog 5 := ⟨_, Try.func5, by kernel_rfl, by kernel_rfl⟩
theorem good_zz28 : Gx.Good Try.prog 5 S_zz28 := good_of_run Try.func5 (of_decide_eq_true (by kernel_rfl)) fun x r h => ⟨A_zz28, big, mkCfg_ok tabOk, mkCfg_sigs (show SigsOk Try.prog [(17, S_zz15), (19, S_zz16), (18, S_zz26), (20, S_zz27), (21, S_zz13), (22, S_zz12)] from ⟨⟨fn_zz15, good_zz15⟩, ⟨fn_zz16, good_zz16⟩, ⟨fn_zz26, good_zz26⟩, ⟨fn_zz27, good_zz27⟩, ⟨fn_zz13, good_zz13⟩, ⟨fn_zz12, good_zz12⟩, trivial⟩), (run_zz28 big x).trans h⟩

/-! zz29 -/
def zz29_b3 (rec : Int → Y5 → Int → Int → Option (Y5 × Unit)) (k : Y5 → Option (Y5 × Unit)) (n0 : Int) (o3 : Y5) (t8 : Int) (t9 : Int) : Option (Y5 × Unit) :=
  cond (decide (t9 < t8))
  ((mkI false n0).bind fun xq3 => (mkI false n0).bind fun xq4 => cond (decide (n0 ≤ n0))
  ((atI o3 t9).bind fun _ =>
  (o3[t9.toNat]?).bind fun xq5 =>
  rec n0 (o3.set t9.toNat xq4) t8 (IntKind.i64.wrap (t9 + (1 : Int))))
  none)
  (k o3)
def zz29_a3 (o3 : Y5) : Option (Y5 × Unit) :=
  some (o3, (()))
def zz29_s (L3 : Int → Y5 → Int → Int → Option (Y5 × Unit)) (n_0 : Int) : Option (Y5 × Unit) :=
  (mkI ([] : (List Bool)) n_0).bind fun xq1 => (mkI ([] : (List Bool)) n_0).bind fun xq2 => cond (decide (n_0 ≤ n_0))
  (L3 n_0 xq2 (xq2.length : Int) (0 : Int))
  none
def zz29_l3 (N : Nat) (k : Y5 → Option (Y5 × Unit)) : Nat → Int → Y5 → Int → Int → Option (Y5 × Unit)
  | 0, _, _, _, _ => none
  | m + 1, n0, o3, t8, t9 => zz29_b3 (zz29_l3 N k m) k n0 o3 t8 t9
def zz29_F3 (N : Nat) (n0 : Int) (o3 : Y5) (t8 : Int) (t9 : Int) : Option (Y5 × Unit) := zz29_l3 N (zz29_a3) N n0 o3 t8 t9
def zz29 (N : Nat) (n_0 : Int) : Option (Y5 × Unit) := zz29_s (zz29_F3 N) n_0
def S_zz29 : Sig := { a := (.pair I .unit), md := [0], mf := [], m := .unit, r := (.sl (.sl .bool)), rf := (.o (.o .i)), f := fun x => zz29 big x.1 }
def A_zz29 : Cfg := mkCfg tab [] [(6, [.as I .i, .drop, .drop, .as (.sl (.sl .bool)) (.o (.o .i)), .drop, .drop, .drop, .drop, .as I .i, .as I .i]), (15, [.drop, .drop, .drop, .as (.sl (.sl .bool)) (.o (.o .i))])]
noncomputable def zz29_R3 (N n : Nat) (K : Ex → St → Option (Y5 × Unit)) (n0 : Int) (o3 : Y5) (t8 : Int) (t9 : Int) : Option (Y5 × Unit) := iter ((A_zz29).shape 6) (run (A_zz29) N (codeAt Try.f61 [1, 1, 0, 1, 0, 0])) n ([.val I .i n0, .u, .u, .val (.sl (.sl .bool)) (.o (.o .i)) o3, .u, .u, .u, .u, .val I .i t8, .val I .i t9] ++ List.replicate 9 .u) K
noncomputable abbrev zz29_z : Ex → St → Option (Y5 × Unit) := finish (A_zz29) S_zz29 Try.f61.results.toList
noncomputable abbrev zz29_X3 (kX : St → Option (Y5 × Unit)) : Y5 → Option (Y5 × Unit) := fun (o3 : Y5) => kX ([.u, .u, .u, .val (.sl (.sl .bool)) (.o (.o .i)) o3] ++ List.replicate 15 .u)
noncomputable abbrev zz29_E3 (kX : St → Option (Y5 × Unit)) (kO : Nat → St → Option (Y5 × Unit)) : Ex → St → Option (Y5 × Unit) := exK zz29_z 0 ((A_zz29).shape 15) kX kO
theorem zz29_step3 (N : Nat) (m : Nat) (kX : St → Option (Y5 × Unit)) (kO : Nat → St → Option (Y5 × Unit)) (n0 : Int) (o3 : Y5) (t8 : Int) (t9 : Int) : zz29_R3 N (m + 1) (zz29_E3 kX kO) n0 o3 t8 t9 = zz29_b3 (zz29_R3 N m (zz29_E3 kX kO)) (zz29_X3 kX) n0 o3 t8 t9 := by kernel_rfl
theorem zz29_iter3 (N : Nat) (kX : St → Option (Y5 × Unit)) (kO : Nat → St → Option (Y5 × Unit)) : ∀ (n : Nat) (n0 : Int) (o3 : Y5) (t8 : Int) (t9 : Int), zz29_R3 N n (zz29_E3 kX kO) n0 o3 t8 t9 = zz29_l3 N (zz29_X3 kX) n n0 o3 t8 t9
  | 0, _, _, _, _ => rfl
  | m + 1, n0, o3, t8, t9 => by
    have hrec : zz29_R3 N m (zz29_E3 kX kO) = (zz29_l3 N (zz29_X3 kX) m) := (funext fun n0 => (funext fun o3 => (funext fun t8 => (funext fun t9 => zz29_iter3 N kX kO m n0 o3 t8 t9))))
    refine (zz29_step3 N m kX kO n0 o3 t8 t9).trans ?_
    rw [hrec]
    rfl
noncomputable abbrev zz29_K3 (N : Nat) : Ex → St → Option (Y5 × Unit) := (blockK 0 (seqK ((A_zz29).shape 15) (run (A_zz29) N (codeAt Try.f61 [1, 1, 1])) zz29_z))
noncomputable abbrev zz29_k3 (N : Nat) : St → Option (Y5 × Unit) := fun st' => run (A_zz29) N (codeAt Try.f61 [1, 1, 1]) st' zz29_z
theorem zz29_after3 (N : Nat) (o3 : Y5) : zz29_X3 (zz29_k3 N) o3 = zz29_a3 o3 := by kernel_rfl
theorem zz29_in3 (N : Nat) (n0 : Int) (o3 : Y5) (t8 : Int) (t9 : Int) : zz29_R3 N N (zz29_K3 N) n0 o3 t8 t9 = zz29_F3 N n0 o3 t8 t9 :=
  have h : zz29_X3 (zz29_k3 N) = (zz29_a3) := (funext fun o3 => zz29_after3 N o3)
  ((iter_ex (fun st => by kernel_rfl) (fun st => by kernel_rfl)).trans (zz29_iter3 N (zz29_k3 N) (fun j st => (zz29_K3 N) (.exit j) st) N n0 o3 t8 t9)).trans (congrArg (fun k => zz29_l3 N k N n0 o3 t8 t9) h)
theorem run0_zz29 (N : Nat) (x : (S_zz29).a.den) : runF (A_zz29) N Try.f61 S_zz29 x = (zz29_s (zz29_R3 N N (zz29_K3 N)) x.1) := by kernel_rfl
theorem run_zz29 (N : Nat) (x : (S_zz29).a.den) : runF (A_zz29) N Try.f61 S_zz29 x = zz29 N x.1 := by
  refine (run0_zz29 N x).trans ?_
  rw [(funext fun n0 => (funext fun o3 => (funext fun t8 => (funext fun t9 => zz29_in3 N n0 o3 t8 t9))))]
  rfl
theorem fn_zz29 : FnOk Try.prog 61 := ⟨_, Try.func61, by kernel_rfl, by kernel_rfl⟩
theorem good_zz29 : Gx.Good Try.prog 61 S_zz29 := good_of_run Try.func61 (of_decide_eq_true (by kernel_rfl)) fun x r h => ⟨A_zz29, big, mkCfg_ok tabOk, mkCfg_sigs (show SigsOk Try.prog [] from trivial), (run_zz29 big x).trans h⟩

/-! zz30 -/
def zz30_b2 (rec : Y4 → Int → Option (Bool × Unit)) (k : Option (Bool × Unit)) (list0 : Y4) (i3 : Int) : Option (Bool × Unit) :=
  cond (decide (i3 < (list0.length : Int)))
  ((atI list0 (IntKind.i64.wrap (i3 - (1 : Int)))).bind fun xq1 =>
  (atI list0 i3).bind fun xq2 =>
  cond (decide (xq2 ≤ xq1))
  (some (false, (())))
  (rec list0 (IntKind.i64.wrap (i3 + (1 : Int)))))
  (k)
def zz30_a2 : Option (Bool × Unit) :=
  some (true, (()))
def zz30_s (L2 : Y4 → Int → Option (Bool × Unit)) (list_0 : Y4) : Option (Bool × Unit) :=
  L2 list_0 (1 : Int)
def zz30_l2 (N : Nat) (k : Option (Bool × Unit)) : Nat → Y4 → Int → Option (Bool × Unit)
  | 0, _, _ => none
  | m + 1, list0, i3 => zz30_b2 (zz30_l2 N k m) k list0 i3
def zz30_F2 (N : Nat) (list0 : Y4) (i3 : Int) : Option (Bool × Unit) := zz30_l2 N (zz30_a2) N list0 i3
def zz30 (N : Nat) (list_0 : Y4) : Option (Bool × Unit) := zz30_s (zz30_F2 N) list_0
def S_zz30 : Sig := { a := (.pair (.sl I) .unit), md := [0], mf := [], m := .unit, r := .bool, rf := .i, f := fun x => zz30 big x.1 }
def A_zz30 : Cfg := mkCfg tab [] [(4, [.as (.sl I) .i, .drop, .drop, .as I .i]), (13, [])]
noncomputable def zz30_R2 (N n : Nat) (K : Ex → St → Option (Bool × Unit)) (list0 : Y4) (i3 : Int) : Option (Bool × Unit) := iter ((A_zz30).shape 4) (run (A_zz30) N (codeAt Try.f62 [1, 0, 1, 0, 0])) n ([.val (.sl I) .i list0, .u, .u, .val I .i i3] ++ List.replicate 16 .u) K
noncomputable abbrev zz30_z : Ex → St → Option (Bool × Unit) := finish (A_zz30) S_zz30 Try.f62.results.toList
noncomputable abbrev zz30_X2 (kX : St → Option (Bool × Unit)) : Option (Bool × Unit) := kX ([] ++ List.replicate 20 .u)
noncomputable abbrev zz30_E2 (kX : St → Option (Bool × Unit)) (kO : Nat → St → Option (Bool × Unit)) : Ex → St → Option (Bool × Unit) := exK zz30_z 0 ((A_zz30).shape 13) kX kO
theorem zz30_step2 (N : Nat) (m : Nat) (kX : St → Option (Bool × Unit)) (kO : Nat → St → Option (Bool × Unit)) (list0 : Y4) (i3 : Int) : zz30_R2 N (m + 1) (zz30_E2 kX kO) list0 i3 = zz30_b2 (zz30_R2 N m (zz30_E2 kX kO)) (zz30_X2 kX) list0 i3 := by kernel_rfl
theorem zz30_iter2 (N : Nat) (kX : St → Option (Bool × Unit)) (kO : Nat → St → Option (Bool × Unit)) : ∀ (n : Nat) (list0 : Y4) (i3 : Int), zz30_R2 N n (zz30_E2 kX kO) list0 i3 = zz30_l2 N (zz30_X2 kX) n list0 i3
  | 0, _, _ => rfl
  | m + 1, list0, i3 => by
    have hrec : zz30_R2 N m (zz30_E2 kX kO) = (zz30_l2 N (zz30_X2 kX) m) := (funext fun list0 => (funext fun i3 => zz30_iter2 N kX kO m list0 i3))
    refine (zz30_step2 N m kX kO list0 i3).trans ?_
    rw [hrec]
    rfl
noncomputable abbrev zz30_K2 (N : Nat) : Ex → St → Option (Bool × Unit) := (blockK 0 (seqK ((A_zz30).shape 13) (run (A_zz30) N (codeAt Try.f62 [1, 1])) zz30_z))
noncomputable abbrev zz30_k2 (N : Nat) : St → Option (Bool × Unit) := fun st' => run (A_zz30) N (codeAt Try.f62 [1, 1]) st' zz30_z
theorem zz30_after2 (N : Nat) : zz30_X2 (zz30_k2 N) = zz30_a2 := by kernel_rfl
theorem zz30_in2 (N : Nat) (list0 : Y4) (i3 : Int) : zz30_R2 N N (zz30_K2 N) list0 i3 = zz30_F2 N list0 i3 :=
  have h : zz30_X2 (zz30_k2 N) = (zz30_a2) := zz30_after2 N
  ((iter_ex (fun st => by kernel_rfl) (fun st => by kernel_rfl)).trans (zz30_iter2 N (zz30_k2 N) (fun j st => (zz30_K2 N) (.exit j) st) N list0 i3)).trans (congrArg (fun k => zz30_l2 N k N list0 i3) h)
theorem run0_zz30 (N : Nat) (x : (S_zz30).a.den) : runF (A_zz30) N Try.f62 S_zz30 x = (zz30_s (zz30_R2 N N (zz30_K2 N)) x.1) := by kernel_rfl
theorem run_zz30 (N : Nat) (x : (S_zz30).a.den) : runF (A_zz30) N Try.f62 S_zz30 x = zz30 N x.1 := by
  refine (run0_zz30 N x).trans ?_
  rw [(funext fun list0 => (funext fun i3 => zz30_in2 N list0 i3))]
  rfl
theorem fn_zz30 : FnOk Try.prog 62 := ⟨_, Try.func62, by kernel_rfl, by kernel_rfl⟩
theorem good_zz30 : Gx.Good Try.prog 62 S_zz30 := good_of_run Try.func62 (of_decide_eq_true (by kernel_rfl)) fun x r h => ⟨A_zz30, big, mkCfg_ok tabOk, mkCfg_sigs (show SigsOk Try.prog [] from trivial), (run_zz30 big x).trans h⟩

/-! zz31 -/
def zz31_b2 (rec : Int → Y4 → Int → Int → Option (Bool × Unit)) (k : Option (Bool × Unit)) (n1 : Int) (t7 : Y4) (t8 : Int) (t9 : Int) : Option (Bool × Unit) :=
  cond (decide (t9 < t8))
  ((atI t7 t9).bind fun xq1 =>
  cond (decide (xq1 < (0 : Int)))
  (some (false, (())))
  (cond (decide (n1 ≤ xq1))
  (some (false, (())))
  (rec n1 t7 t8 (IntKind.i64.wrap (t9 + (1 : Int))))))
  (k)
def zz31_a2 : Option (Bool × Unit) :=
  some (true, (()))
def zz31_s (L2 : Int → Y4 → Int → Int → Option (Bool × Unit)) (list_0 : Y4) (n_1 : Int) : Option (Bool × Unit) :=
  L2 n_1 list_0 (list_0.length : Int) (0 : Int)
def zz31_l2 (N : Nat) (k : Option (Bool × Unit)) : Nat → Int → Y4 → Int → Int → Option (Bool × Unit)
  | 0, _, _, _, _ => none
  | m + 1, n1, t7, t8, t9 => zz31_b2 (zz31_l2 N k m) k n1 t7 t8 t9
def zz31_F2 (N : Nat) (n1 : Int) (t7 : Y4) (t8 : Int) (t9 : Int) : Option (Bool × Unit) := zz31_l2 N (zz31_a2) N n1 t7 t8 t9
def zz31 (N : Nat) (list_0 : Y4) (n_1 : Int) : Option (Bool × Unit) := zz31_s (zz31_F2 N) list_0 n_1
def S_zz31 : Sig := { a := (.pair (.sl I) (.pair I .unit)), md := [0, 0], mf := [], m := .unit, r := .bool, rf := .i, f := fun x => zz31 big x.1 x.2.1 }
def A_zz31 : Cfg := mkCfg tab [] [(4, [.drop, .as I .i, .drop, .drop, .drop, .drop, .drop, .as (.sl I) .i, .as I .i, .as I .i]), (15, [])]
noncomputable def zz31_R2 (N n : Nat) (K : Ex → St → Option (Bool × Unit)) (n1 : Int) (t7 : Y4) (t8 : Int) (t9 : Int) : Option (Bool × Unit) := iter ((A_zz31).shape 4) (run (A_zz31) N (codeAt Try.f63 [1, 0, 1, 0, 0])) n ([.u, .val I .i n1, .u, .u, .u, .u, .u, .val (.sl I) .i t7, .val I .i t8, .val I .i t9] ++ List.replicate 11 .u) K
noncomputable abbrev zz31_z : Ex → St → Option (Bool × Unit) := finish (A_zz31) S_zz31 Try.f63.results.toList
noncomputable abbrev zz31_X2 (kX : St → Option (Bool × Unit)) : Option (Bool × Unit) := kX ([] ++ List.replicate 21 .u)
noncomputable abbrev zz31_E2 (kX : St → Option (Bool × Unit)) (kO : Nat → St → Option (Bool × Unit)) : Ex → St → Option (Bool × Unit) := exK zz31_z 0 ((A_zz31).shape 15) kX kO
theorem zz31_step2 (N : Nat) (m : Nat) (kX : St → Option (Bool × Unit)) (kO : Nat → St → Option (Bool × Unit)) (n1 : Int) (t7 : Y4) (t8 : Int) (t9 : Int) : zz31_R2 N (m + 1) (zz31_E2 kX kO) n1 t7 t8 t9 = zz31_b2 (zz31_R2 N m (zz31_E2 kX kO)) (zz31_X2 kX) n1 t7 t8 t9 := by kernel_rfl
theorem zz31_iter2 (N : Nat) (kX : St → Option (Bool × Unit)) (kO : Nat → St → Option (Bool × Unit)) : ∀ (n : Nat) (n1 : Int) (t7 : Y4) (t8 : Int) (t9 : Int), zz31_R2 N n (zz31_E2 kX kO) n1 t7 t8 t9 = zz31_l2 N (zz31_X2 kX) n n1 t7 t8 t9
  | 0, _, _, _, _ => rfl
  | m + 1, n1, t7, t8, t9 => by
    have hrec : zz31_R2 N m (zz31_E2 kX kO) = (zz31_l2 N (zz31_X2 kX) m) := (funext fun n1 => (funext fun t7 => (funext fun t8 => (funext fun t9 => zz31_iter2 N kX kO m n1 t7 t8 t9))))
    refine (zz31_step2 N m kX kO n1 t7 t8 t9).trans ?_
    rw [hrec]
    rfl
noncomputable abbrev zz31_K2 (N : Nat) : Ex → St → Option (Bool × Unit) := (blockK 0 (seqK ((A_zz31).shape 15) (run (A_zz31) N (codeAt Try.f63 [1, 1])) zz31_z))
noncomputable abbrev zz31_k2 (N : Nat) : St → Option (Bool × Unit) := fun st' => run (A_zz31) N (codeAt Try.f63 [1, 1]) st' zz31_z
theorem zz31_after2 (N : Nat) : zz31_X2 (zz31_k2 N) = zz31_a2 := by kernel_rfl
theorem zz31_in2 (N : Nat) (n1 : Int) (t7 : Y4) (t8 : Int) (t9 : Int) : zz31_R2 N N (zz31_K2 N) n1 t7 t8 t9 = zz31_F2 N n1 t7 t8 t9 :=
  have h : zz31_X2 (zz31_k2 N) = (zz31_a2) := zz31_after2 N
  ((iter_ex (fun st => by kernel_rfl) (fun st => by kernel_rfl)).trans (zz31_iter2 N (zz31_k2 N) (fun j st => (zz31_K2 N) (.exit j) st) N n1 t7 t8 t9)).trans (congrArg (fun k => zz31_l2 N k N n1 t7 t8 t9) h)
theorem run0_zz31 (N : Nat) (x : (S_zz31).a.den) : runF (A_zz31) N Try.f63 S_zz31 x = (zz31_s (zz31_R2 N N (zz31_K2 N)) x.1 x.2.1) := by kernel_rfl
theorem run_zz31 (N : Nat) (x : (S_zz31).a.den) : runF (A_zz31) N Try.f63 S_zz31 x = zz31 N x.1 x.2.1 := by
  refine (run0_zz31 N x).trans ?_
  rw [(funext fun n1 => (funext fun t7 => (funext fun t8 => (funext fun t9 => zz31_in2 N n1 t7 t8 t9))))]
  rfl
theorem fn_zz31 : FnOk Try.prog 63 := ⟨_, Try.func63, by kernel_rfl, by kernel_rfl⟩
theorem good_zz31 : Gx.Good Try.prog 63 S_zz31 := good_of_run Try.func63 (of_decide_eq_true (by kernel_rfl)) fun x r h => ⟨A_zz31, big, mkCfg_ok tabOk, mkCfg_sigs (show SigsOk Try.prog [] from trivial), (run_zz31 big x).trans h⟩

/-! zz32 -/
def zz32_b12 (rec : Y5 → Int → Int → Int → Int → Int → Int → Int → Int → Option (Bool × Unit)) (k : Y5 → Int → Int → Int → Int → Int → Option (Bool × Unit)) (o0 : Y5) (x3 : Int) (y4 : Int) (t7 : Int) (t8 : Int) (t20 : Int) (t21 : Int) (t46 : Int) (t47 : Int) : Option (Bool × Unit) :=
  cond (decide (t47 < t46))
  ((atI o0 x3).bind fun xq7 =>
  (atI xq7 y4).bind fun xq8 =>
  cond xq8
  ((atI o0 y4).bind fun xq9 =>
  (atI xq9 t47).bind fun xq10 =>
  cond xq10
  ((atI o0 x3).bind fun xq11 =>
  (atI xq11 t47).bind fun xq12 =>
  cond (!xq12)
  (some (false, (())))
  (rec o0 x3 y4 t7 t8 t20 t21 t46 (IntKind.i64.wrap (t47 + (1 : Int)))))
  (rec o0 x3 y4 t7 t8 t20 t21 t46 (IntKind.i64.wrap (t47 + (1 : Int)))))
  (rec o0 x3 y4 t7 t8 t20 t21 t46 (IntKind.i64.wrap (t47 + (1 : Int)))))
  (k o0 x3 t7 t8 t20 t21)
def zz32_a12 (rec : Y5 → Int → Int → Int → Int → Int → Option (Bool × Unit)) (o0 : Y5) (x3 : Int) (t7 : Int) (t8 : Int) (t20 : Int) (t21 : Int) : Option (Bool × Unit) :=
  rec o0 x3 t7 t8 t20 (IntKind.i64.wrap (t21 + (1 : Int)))
def zz32_b7 (L12 : Y5 → Int → Int → Int → Int → Int → Int → Int → Int → Option (Bool × Unit)) (k : Y5 → Int → Int → Option (Bool × Unit)) (o0 : Y5) (x3 : Int) (t7 : Int) (t8 : Int) (t20 : Int) (t21 : Int) : Option (Bool × Unit) :=
  cond (decide (t21 < t20))
  (cond (decide (x3 ≠ t21))
  ((atI o0 x3).bind fun xq3 =>
  (atI xq3 t21).bind fun xq4 =>
  cond xq4
  ((atI o0 t21).bind fun xq5 =>
  (atI xq5 x3).bind fun xq6 =>
  cond xq6
  (some (false, (())))
  (L12 o0 x3 t21 t7 t8 t20 t21 (o0.length : Int) (0 : Int)))
  (L12 o0 x3 t21 t7 t8 t20 t21 (o0.length : Int) (0 : Int)))
  (L12 o0 x3 t21 t7 t8 t20 t21 (o0.length : Int) (0 : Int)))
  (k o0 t7 t8)
def zz32_a7 (rec : Y5 → Int → Int → Option (Bool × Unit)) (o0 : Y5) (t7 : Int) (t8 : Int) : Option (Bool × Unit) :=
  rec o0 t7 (IntKind.i64.wrap (t8 + (1 : Int)))
def zz32_b2 (L7 : Y5 → Int → Int → Int → Int → Int → Option (Bool × Unit)) (k : Option (Bool × Unit)) (o0 : Y5) (t7 : Int) (t8 : Int) : Option (Bool × Unit) :=
  cond (decide (t8 < t7))
  ((atI o0 t8).bind fun xq1 =>
  (atI xq1 t8).bind fun xq2 =>
  cond (!xq2)
  (some (false, (())))
  (L7 o0 t8 t7 t8 (o0.length : Int) (0 : Int)))
  (k)
def zz32_a2 : Option (Bool × Unit) :=
  some (true, (()))
def zz32_s (L2 : Y5 → Int → Int → Option (Bool × Unit)) (o_0 : Y5) : Option (Bool × Unit) :=
  L2 o_0 (o_0.length : Int) (0 : Int)
def zz32_l12 (N : Nat) (k : Y5 → Int → Int → Int → Int → Int → Option (Bool × Unit)) : Nat → Y5 → Int → Int → Int → Int → Int → Int → Int → Int → Option (Bool × Unit)
  | 0, _, _, _, _, _, _, _, _, _ => none
  | m + 1, o0, x3, y4, t7, t8, t20, t21, t46, t47 => zz32_b12 (zz32_l12 N k m) k o0 x3 y4 t7 t8 t20 t21 t46 t47
def zz32_F12 (N : Nat) (rec : Y5 → Int → Int → Int → Int → Int → Option (Bool × Unit)) (k : Y5 → Int → Int → Option (Bool × Unit)) (o0 : Y5) (x3 : Int) (y4 : Int) (t7 : Int) (t8 : Int) (t20 : Int) (t21 : Int) (t46 : Int) (t47 : Int) : Option (Bool × Unit) := zz32_l12 N (zz32_a12 rec) N o0 x3 y4 t7 t8 t20 t21 t46 t47
def zz32_l7 (N : Nat) (k : Y5 → Int → Int → Option (Bool × Unit)) : Nat → Y5 → Int → Int → Int → Int → Int → Option (Bool × Unit)
  | 0, _, _, _, _, _, _ => none
  | m + 1, o0, x3, t7, t8, t20, t21 => zz32_b7 (zz32_F12 N (zz32_l7 N k m) k) k o0 x3 t7 t8 t20 t21
def zz32_F7 (N : Nat) (rec : Y5 → Int → Int → Option (Bool × Unit)) (k : Option (Bool × Unit)) (o0 : Y5) (x3 : Int) (t7 : Int) (t8 : Int) (t20 : Int) (t21 : Int) : Option (Bool × Unit) := zz32_l7 N (zz32_a7 rec) N o0 x3 t7 t8 t20 t21
def zz32_l2 (N : Nat) (k : Option (Bool × Unit)) : Nat → Y5 → Int → Int → Option (Bool × Unit)
  | 0, _, _, _ => none
  | m + 1, o0, t7, t8 => zz32_b2 (zz32_F7 N (zz32_l2 N k m) k) k o0 t7 t8
def zz32_F2 (N : Nat) (o0 : Y5) (t7 : Int) (t8 : Int) : Option (Bool × Unit) := zz32_l2 N (zz32_a2) N o0 t7 t8
def zz32 (N : Nat) (o_0 : Y5) : Option (Bool × Unit) := zz32_s (zz32_F2 N) o_0
def S_zz32 : Sig := { a := (.pair (.sl (.sl .bool)) .unit), md := [0], mf := [], m := .unit, r := .bool, rf := .i, f := fun x => zz32 big x.1 }
def A_zz32 : Cfg := mkCfg tab [] [(4, [.as (.sl (.sl .bool)) .i, .drop, .drop, .drop, .drop, .drop, .drop, .as I .i, .as I .i]), (14, [.as (.sl (.sl .bool)) .i, .drop, .drop, .as I .i, .drop, .drop, .drop, .as I .i, .as I .i, .drop, .drop, .drop, .drop, .drop, .drop, .drop, .drop, .drop, .drop, .drop, .as I .i, .as I .i]), (39, []), (24, [.as (.sl (.sl .bool)) .i, .drop, .drop, .as I .i, .as I .i, .drop, .drop, .as I .i, .as I .i, .drop, .drop, .drop, .drop, .drop, .drop, .drop, .drop, .drop, .drop, .drop, .as I .i, .as I .i, .drop, .drop, .drop, .drop, .drop, .drop, .drop, .drop, .drop, .drop, .drop, .drop, .drop, .drop, .drop, .drop, .drop, .drop, .drop, .drop, .drop, .drop, .drop, .drop, .as I .i, .as I .i]), (37, [.as (.sl (.sl .bool)) .i, .drop, .drop, .drop, .drop, .drop, .drop, .as I .i, .as I .i]), (35, [.as (.sl (.sl .bool)) .i, .drop, .drop, .as I .i, .drop, .drop, .drop, .as I .i, .as I .i, .drop, .drop, .drop, .drop, .drop, .drop, .drop, .drop, .drop, .drop, .drop, .as I .i, .as I .i])]
noncomputable def zz32_R2 (N n : Nat) (K : Ex → St → Option (Bool × Unit)) (o0 : Y5) (t7 : Int) (t8 : Int) : Option (Bool × Unit) := iter ((A_zz32).shape 4) (run (A_zz32) N (codeAt Try.f64 [1, 0, 1, 0, 0])) n ([.val (.sl (.sl .bool)) .i o0, .u, .u, .u, .u, .u, .u, .val I .i t7, .val I .i t8] ++ List.replicate 70 .u) K
noncomputable def zz32_R7 (N n : Nat) (K : Ex → St → Option (Bool × Unit)) (o0 : Y5) (x3 : Int) (t7 : Int) (t8 : Int) (t20 : Int) (t21 : Int) : Option (Bool × Unit) := iter ((A_zz32).shape 14) (run (A_zz32) N (codeAt Try.f64 [1, 0, 1, 0, 0, 1, 1, 0, 0, 1, 1, 1, 0, 0])) n ([.val (.sl (.sl .bool)) .i o0, .u, .u, .val I .i x3, .u, .u, .u, .val I .i t7, .val I .i t8, .u, .u, .u, .u, .u, .u, .u, .u, .u, .u, .u, .val I .i t20, .val I .i t21] ++ List.replicate 57 .u) K
noncomputable def zz32_R12 (N n : Nat) (K : Ex → St → Option (Bool × Unit)) (o0 : Y5) (x3 : Int) (y4 : Int) (t7 : Int) (t8 : Int) (t20 : Int) (t21 : Int) (t46 : Int) (t47 : Int) : Option (Bool × Unit) := iter ((A_zz32).shape 24) (run (A_zz32) N (codeAt Try.f64 [1, 0, 1, 0, 0, 1, 1, 0, 0, 1, 1, 1, 0, 0, 1, 1, 0, 0, 1, 1, 1, 0, 0])) n ([.val (.sl (.sl .bool)) .i o0, .u, .u, .val I .i x3, .val I .i y4, .u, .u, .val I .i t7, .val I .i t8, .u, .u, .u, .u, .u, .u, .u, .u, .u, .u, .u, .val I .i t20, .val I .i t21, .u, .u, .u, .u, .u, .u, .u, .u, .u, .u, .u, .u, .u, .u, .u, .u, .u, .u, .u, .u, .u, .u, .u, .u, .val I .i t46, .val I .i t47] ++ List.replicate 31 .u) K
noncomputable abbrev zz32_z : Ex → St → Option (Bool × Unit) := finish (A_zz32) S_zz32 Try.f64.results.toList
noncomputable abbrev zz32_X2 (kX : St → Option (Bool × Unit)) : Option (Bool × Unit) := kX ([] ++ List.replicate 79 .u)
noncomputable abbrev zz32_E2 (kX : St → Option (Bool × Unit)) (kO : Nat → St → Option (Bool × Unit)) : Ex → St → Option (Bool × Unit) := exK zz32_z 0 ((A_zz32).shape 39) kX kO
noncomputable abbrev zz32_X7 (kX : St → Option (Bool × Unit)) : Y5 → Int → Int → Option (Bool × Unit) := fun (o0 : Y5) (t7 : Int) (t8 : Int) => kX ([.val (.sl (.sl .bool)) .i o0, .u, .u, .u, .u, .u, .u, .val I .i t7, .val I .i t8] ++ List.replicate 70 .u)
noncomputable abbrev zz32_E7 (kX : St → Option (Bool × Unit)) (kO : Nat → St → Option (Bool × Unit)) : Ex → St → Option (Bool × Unit) := exK zz32_z 2 ((A_zz32).shape 37) kX kO
noncomputable abbrev zz32_X12 (kX : St → Option (Bool × Unit)) : Y5 → Int → Int → Int → Int → Int → Option (Bool × Unit) := fun (o0 : Y5) (x3 : Int) (t7 : Int) (t8 : Int) (t20 : Int) (t21 : Int) => kX ([.val (.sl (.sl .bool)) .i o0, .u, .u, .val I .i x3, .u, .u, .u, .val I .i t7, .val I .i t8, .u, .u, .u, .u, .u, .u, .u, .u, .u, .u, .u, .val I .i t20, .val I .i t21] ++ List.replicate 57 .u)
noncomputable abbrev zz32_E12 (kX : St → Option (Bool × Unit)) (kO : Nat → St → Option (Bool × Unit)) : Ex → St → Option (Bool × Unit) := exK zz32_z 4 ((A_zz32).shape 35) kX kO
theorem zz32_step12 (N : Nat) (m : Nat) (kX : St → Option (Bool × Unit)) (kO : Nat → St → Option (Bool × Unit)) (o0 : Y5) (x3 : Int) (y4 : Int) (t7 : Int) (t8 : Int) (t20 : Int) (t21 : Int) (t46 : Int) (t47 : Int) : zz32_R12 N (m + 1) (zz32_E12 kX kO) o0 x3 y4 t7 t8 t20 t21 t46 t47 = zz32_b12 (zz32_R12 N m (zz32_E12 kX kO)) (zz32_X12 kX) o0 x3 y4 t7 t8 t20 t21 t46 t47 := by kernel_rfl
theorem zz32_iter12 (N : Nat) (kX : St → Option (Bool × Unit)) (kO : Nat → St → Option (Bool × Unit)) : ∀ (n : Nat) (o0 : Y5) (x3 : Int) (y4 : Int) (t7 : Int) (t8 : Int) (t20 : Int) (t21 : Int) (t46 : Int) (t47 : Int), zz32_R12 N n (zz32_E12 kX kO) o0 x3 y4 t7 t8 t20 t21 t46 t47 = zz32_l12 N (zz32_X12 kX) n o0 x3 y4 t7 t8 t20 t21 t46 t47
  | 0, _, _, _, _, _, _, _, _, _ => rfl
  | m + 1, o0, x3, y4, t7, t8, t20, t21, t46, t47 => by
    have hrec : zz32_R12 N m (zz32_E12 kX kO) = (zz32_l12 N (zz32_X12 kX) m) := (funext fun o0 => (funext fun x3 => (funext fun y4 => (funext fun t7 => (funext fun t8 => (funext fun t20 => (funext fun t21 => (funext fun t46 => (funext fun t47 => zz32_iter12 N kX kO m o0 x3 y4 t7 t8 t20 t21 t46 t47)))))))))
    refine (zz32_step12 N m kX kO o0 x3 y4 t7 t8 t20 t21 t46 t47).trans ?_
    rw [hrec]
    rfl
noncomputable abbrev zz32_K12 (N : Nat) (m : Nat) (kX : St → Option (Bool × Unit)) (kO : Nat → St → Option (Bool × Unit)) : Ex → St → Option (Bool × Unit) := (blockK 4 (blockK 3 (seqK ((A_zz32).shape 35) (run (A_zz32) N (codeAt Try.f64 [1, 0, 1, 0, 0, 1, 1, 0, 0, 1, 1, 1, 0, 0, 1, 1, 1])) (iterK ((A_zz32).shape 14) (run (A_zz32) N (codeAt Try.f64 [1, 0, 1, 0, 0, 1, 1, 0, 0, 1, 1, 1, 0, 0])) m (zz32_E7 kX kO)))))
noncomputable abbrev zz32_k12 (N : Nat) (m : Nat) (kX : St → Option (Bool × Unit)) (kO : Nat → St → Option (Bool × Unit)) : St → Option (Bool × Unit) := fun st' => run (A_zz32) N (codeAt Try.f64 [1, 0, 1, 0, 0, 1, 1, 0, 0, 1, 1, 1, 0, 0, 1, 1, 1]) st' (iterK ((A_zz32).shape 14) (run (A_zz32) N (codeAt Try.f64 [1, 0, 1, 0, 0, 1, 1, 0, 0, 1, 1, 1, 0, 0])) m (zz32_E7 kX kO))
theorem zz32_after12 (N : Nat) (m : Nat) (kX : St → Option (Bool × Unit)) (kO : Nat → St → Option (Bool × Unit)) (o0 : Y5) (x3 : Int) (t7 : Int) (t8 : Int) (t20 : Int) (t21 : Int) : zz32_X12 (zz32_k12 N m kX kO) o0 x3 t7 t8 t20 t21 = zz32_a12 (zz32_R7 N m (zz32_E7 kX kO)) o0 x3 t7 t8 t20 t21 := by kernel_rfl
theorem zz32_in12 (N : Nat) (m : Nat) (kX : St → Option (Bool × Unit)) (kO : Nat → St → Option (Bool × Unit)) (recF : Y5 → Int → Int → Int → Int → Int → Option (Bool × Unit)) (hrec : zz32_R7 N m (zz32_E7 kX kO) = recF) (o0 : Y5) (x3 : Int) (y4 : Int) (t7 : Int) (t8 : Int) (t20 : Int) (t21 : Int) (t46 : Int) (t47 : Int) : zz32_R12 N N (zz32_K12 N m kX kO) o0 x3 y4 t7 t8 t20 t21 t46 t47 = zz32_F12 N recF (zz32_X7 kX) o0 x3 y4 t7 t8 t20 t21 t46 t47 :=
  have h : zz32_X12 (zz32_k12 N m kX kO) = (zz32_a12 recF) := (funext fun o0 => (funext fun x3 => (funext fun t7 => (funext fun t8 => (funext fun t20 => (funext fun t21 => (zz32_after12 N m kX kO o0 x3 t7 t8 t20 t21).trans (by rw [hrec])))))))
  ((iter_ex (fun st => by kernel_rfl) (fun st => by kernel_rfl)).trans (zz32_iter12 N (zz32_k12 N m kX kO) (fun j st => (zz32_K12 N m kX kO) (.exit j) st) N o0 x3 y4 t7 t8 t20 t21 t46 t47)).trans (congrArg (fun k => zz32_l12 N k N o0 x3 y4 t7 t8 t20 t21 t46 t47) h)
theorem zz32_step7 (N : Nat) (m : Nat) (kX : St → Option (Bool × Unit)) (kO : Nat → St → Option (Bool × Unit)) (o0 : Y5) (x3 : Int) (t7 : Int) (t8 : Int) (t20 : Int) (t21 : Int) : zz32_R7 N (m + 1) (zz32_E7 kX kO) o0 x3 t7 t8 t20 t21 = zz32_b7 (zz32_R12 N N (zz32_K12 N m kX kO)) (zz32_X7 kX) o0 x3 t7 t8 t20 t21 := by kernel_rfl
theorem zz32_iter7 (N : Nat) (kX : St → Option (Bool × Unit)) (kO : Nat → St → Option (Bool × Unit)) : ∀ (n : Nat) (o0 : Y5) (x3 : Int) (t7 : Int) (t8 : Int) (t20 : Int) (t21 : Int), zz32_R7 N n (zz32_E7 kX kO) o0 x3 t7 t8 t20 t21 = zz32_l7 N (zz32_X7 kX) n o0 x3 t7 t8 t20 t21
  | 0, _, _, _, _, _, _ => rfl
  | m + 1, o0, x3, t7, t8, t20, t21 => by
    have hrec : zz32_R7 N m (zz32_E7 kX kO) = (zz32_l7 N (zz32_X7 kX) m) := (funext fun o0 => (funext fun x3 => (funext fun t7 => (funext fun t8 => (funext fun t20 => (funext fun t21 => zz32_iter7 N kX kO m o0 x3 t7 t8 t20 t21))))))
    refine (zz32_step7 N m kX kO o0 x3 t7 t8 t20 t21).trans ?_
    rw [(funext fun o0 => (funext fun x3 => (funext fun y4 => (funext fun t7 => (funext fun t8 => (funext fun t20 => (funext fun t21 => (funext fun t46 => (funext fun t47 => zz32_in12 N m kX kO (zz32_l7 N (zz32_X7 kX) m) hrec o0 x3 y4 t7 t8 t20 t21 t46 t47)))))))))]
    rfl
noncomputable abbrev zz32_K7 (N : Nat) (m : Nat) (kX : St → Option (Bool × Unit)) (kO : Nat → St → Option (Bool × Unit)) : Ex → St → Option (Bool × Unit) := (blockK 2 (blockK 1 (seqK ((A_zz32).shape 37) (run (A_zz32) N (codeAt Try.f64 [1, 0, 1, 0, 0, 1, 1, 1])) (iterK ((A_zz32).shape 4) (run (A_zz32) N (codeAt Try.f64 [1, 0, 1, 0, 0])) m (zz32_E2 kX kO)))))
noncomputable abbrev zz32_k7 (N : Nat) (m : Nat) (kX : St → Option (Bool × Unit)) (kO : Nat → St → Option (Bool × Unit)) : St → Option (Bool × Unit) := fun st' => run (A_zz32) N (codeAt Try.f64 [1, 0, 1, 0, 0, 1, 1, 1]) st' (iterK ((A_zz32).shape 4) (run (A_zz32) N (codeAt Try.f64 [1, 0, 1, 0, 0])) m (zz32_E2 kX kO))
theorem zz32_after7 (N : Nat) (m : Nat) (kX : St → Option (Bool × Unit)) (kO : Nat → St → Option (Bool × Unit)) (o0 : Y5) (t7 : Int) (t8 : Int) : zz32_X7 (zz32_k7 N m kX kO) o0 t7 t8 = zz32_a7 (zz32_R2 N m (zz32_E2 kX kO)) o0 t7 t8 := by kernel_rfl
theorem zz32_in7 (N : Nat) (m : Nat) (kX : St → Option (Bool × Unit)) (kO : Nat → St → Option (Bool × Unit)) (recF : Y5 → Int → Int → Option (Bool × Unit)) (hrec : zz32_R2 N m (zz32_E2 kX kO) = recF) (o0 : Y5) (x3 : Int) (t7 : Int) (t8 : Int) (t20 : Int) (t21 : Int) : zz32_R7 N N (zz32_K7 N m kX kO) o0 x3 t7 t8 t20 t21 = zz32_F7 N recF (zz32_X2 kX) o0 x3 t7 t8 t20 t21 :=
  have h : zz32_X7 (zz32_k7 N m kX kO) = (zz32_a7 recF) := (funext fun o0 => (funext fun t7 => (funext fun t8 => (zz32_after7 N m kX kO o0 t7 t8).trans (by rw [hrec]))))
  ((iter_ex (fun st => by kernel_rfl) (fun st => by kernel_rfl)).trans (zz32_iter7 N (zz32_k7 N m kX kO) (fun j st => (zz32_K7 N m kX kO) (.exit j) st) N o0 x3 t7 t8 t20 t21)).trans (congrArg (fun k => zz32_l7 N k N o0 x3 t7 t8 t20 t21) h)
theorem zz32_step2 (N : Nat) (m : Nat) (kX : St → Option (Bool × Unit)) (kO : Nat → St → Option (Bool × Unit)) (o0 : Y5) (t7 : Int) (t8 : Int) : zz32_R2 N (m + 1) (zz32_E2 kX kO) o0 t7 t8 = zz32_b2 (zz32_R7 N N (zz32_K7 N m kX kO)) (zz32_X2 kX) o0 t7 t8 := by kernel_rfl
theorem zz32_iter2 (N : Nat) (kX : St → Option (Bool × Unit)) (kO : Nat → St → Option (Bool × Unit)) : ∀ (n : Nat) (o0 : Y5) (t7 : Int) (t8 : Int), zz32_R2 N n (zz32_E2 kX kO) o0 t7 t8 = zz32_l2 N (zz32_X2 kX) n o0 t7 t8
  | 0, _, _, _ => rfl
  | m + 1, o0, t7, t8 => by
    have hrec : zz32_R2 N m (zz32_E2 kX kO) = (zz32_l2 N (zz32_X2 kX) m) := (funext fun o0 => (funext fun t7 => (funext fun t8 => zz32_iter2 N kX kO m o0 t7 t8)))
    refine (zz32_step2 N m kX kO o0 t7 t8).trans ?_
    rw [(funext fun o0 => (funext fun x3 => (funext fun t7 => (funext fun t8 => (funext fun t20 => (funext fun t21 => zz32_in7 N m kX kO (zz32_l2 N (zz32_X2 kX) m) hrec o0 x3 t7 t8 t20 t21))))))]
    rfl
noncomputable abbrev zz32_K2 (N : Nat) : Ex → St → Option (Bool × Unit) := (blockK 0 (seqK ((A_zz32).shape 39) (run (A_zz32) N (codeAt Try.f64 [1, 1])) zz32_z))
noncomputable abbrev zz32_k2 (N : Nat) : St → Option (Bool × Unit) := fun st' => run (A_zz32) N (codeAt Try.f64 [1, 1]) st' zz32_z
theorem zz32_after2 (N : Nat) : zz32_X2 (zz32_k2 N) = zz32_a2 := by kernel_rfl
theorem zz32_in2 (N : Nat) (o0 : Y5) (t7 : Int) (t8 : Int) : zz32_R2 N N (zz32_K2 N) o0 t7 t8 = zz32_F2 N o0 t7 t8 :=
  have h : zz32_X2 (zz32_k2 N) = (zz32_a2) := zz32_after2 N
  ((iter_ex (fun st => by kernel_rfl) (fun st => by kernel_rfl)).trans (zz32_iter2 N (zz32_k2 N) (fun j st => (zz32_K2 N) (.exit j) st) N o0 t7 t8)).trans (congrArg (fun k => zz32_l2 N k N o0 t7 t8) h)
theorem run0_zz32 (N : Nat) (x : (S_zz32).a.den) : runF (A_zz32) N Try.f64 S_zz32 x = (zz32_s (zz32_R2 N N (zz32_K2 N)) x.1) := by kernel_rfl
theorem run_zz32 (N : Nat) (x : (S_zz32).a.den) : runF (A_zz32) N Try.f64 S_zz32 x = zz32 N x.1 := by
  refine (run0_zz32 N x).trans ?_
  rw [(funext fun o0 => (funext fun t7 => (funext fun t8 => zz32_in2 N o0 t7 t8)))]
  rfl
theorem fn_zz32 : FnOk Try.prog 64 := ⟨_, Try.func64, by kernel_rfl, by kernel_rfl⟩
theorem good_zz32 : Gx.Good Try.prog 64 S_zz32 := good_of_run Try.func64 (of_decide_eq_true (by kernel_rfl)) fun x r h => ⟨A_zz32, big, mkCfg_ok tabOk, mkCfg_sigs (show SigsOk Try.prog [] from trivial), (run_zz32 big x).trans h⟩

/-! zz33 -/
def zz33_b11 (rec : Int → Y5 → Int → Y3 → Int → Int → Y4 → Int → Bool → Bool → Y4 → Int → Int → Option ((Y5 × (Bool × Unit)) × Unit)) (k : Int → Y5 → Y3 → Int → Int → Y4 → Int → Bool → Bool → Option ((Y5 × (Bool × Unit)) × Unit)) (n4 : Int) (o5 : Y5) (x6 : Int) (t18 : Y3) (t19 : Int) (t20 : Int) (t29 : Y4) (t30 : Int) (t31 : Bool) (t32 : Bool) (t34 : Y4) (t35 : Int) (t36 : Int) : Option ((Y5 × (Bool × Unit)) × Unit) :=
  cond (decide (t36 < t35))
  ((atI t34 t36).bind fun xq6 =>
  (atI o5 xq6).bind fun _ =>
  (o5[xq6.toNat]?).bind fun xq7 =>
  (o5[xq6.toNat]?).bind fun xq8 =>
  (atI xq8 x6).bind fun _ =>
  (o5[xq6.toNat]?).bind fun xq9 =>
  (xq9[x6.toNat]?).bind fun xq10 =>
  rec n4 (o5.set xq6.toNat (xq9.set x6.toNat true)) x6 t18 t19 t20 t29 t30 t31 t32 t34 t35 (IntKind.i64.wrap (t36 + (1 : Int))))
  (k n4 o5 t18 t19 t20 t29 t30 t31 t32)
def zz33_a11 (rec : Int → Y5 → Y3 → Int → Int → Option ((Y5 × (Bool × Unit)) × Unit)) (n4 : Int) (o5 : Y5) (t18 : Y3) (t19 : Int) (t20 : Int) (t29 : Y4) (t30 : Int) (t31 : Bool) (t32 : Bool) : Option ((Y5 × (Bool × Unit)) × Unit) :=
  rec n4 o5 t18 t19 (IntKind.i64.wrap (t20 + (1 : Int)))
def zz33_b6 (L11 : Int → Y5 → Int → Y3 → Int → Int → Y4 → Int → Bool → Bool → Y4 → Int → Int → Option ((Y5 × (Bool × Unit)) × Unit)) (k : Y5 → Option ((Y5 × (Bool × Unit)) × Unit)) (n4 : Int) (o5 : Y5) (t18 : Y3) (t19 : Int) (t20 : Int) : Option ((Y5 × (Bool × Unit)) × Unit) :=
  cond (decide (t20 < t19))
  ((atI t18 t20).bind fun xq2 =>
  (zz30 big xq2).bind fun rq3 =>
  cond (!rq3.1)
  (some (([], false, ()), (())))
  ((zz31 big xq2 n4).bind fun rq4 =>
  cond (!rq4.1)
  (some (([], false, ()), (())))
  (L11 n4 o5 t20 t18 t19 t20 xq2 n4 rq4.1 (!rq4.1) xq2 (xq2.length : Int) (0 : Int))))
  (k o5)
def zz33_a6 (o5 : Y5) : Option ((Y5 × (Bool × Unit)) × Unit) :=
  (zz32 big o5).bind fun rq5 =>
  some ((o5, rq5.1, ()), (()))
def zz33_s (L6 : Int → Y5 → Y3 → Int → Int → Option ((Y5 × (Bool × Unit)) × Unit)) (p_0 : Y2) : Option ((Y5 × (Bool × Unit)) × Unit) :=
  cond (decide ((10 : Int) < (p_0.1.length : Int)))
  (some (([], false, ()), (())))
  ((zz29 big (p_0.1.length : Int)).bind fun rq1 =>
  L6 (p_0.1.length : Int) rq1.1 p_0.1 (p_0.1.length : Int) (0 : Int))
def zz33_l11 (N : Nat) (k : Int → Y5 → Y3 → Int → Int → Y4 → Int → Bool → Bool → Option ((Y5 × (Bool × Unit)) × Unit)) : Nat → Int → Y5 → Int → Y3 → Int → Int → Y4 → Int → Bool → Bool → Y4 → Int → Int → Option ((Y5 × (Bool × Unit)) × Unit)
  | 0, _, _, _, _, _, _, _, _, _, _, _, _, _ => none
  | m + 1, n4, o5, x6, t18, t19, t20, t29, t30, t31, t32, t34, t35, t36 => zz33_b11 (zz33_l11 N k m) k n4 o5 x6 t18 t19 t20 t29 t30 t31 t32 t34 t35 t36
def zz33_F11 (N : Nat) (rec : Int → Y5 → Y3 → Int → Int → Option ((Y5 × (Bool × Unit)) × Unit)) (k : Y5 → Option ((Y5 × (Bool × Unit)) × Unit)) (n4 : Int) (o5 : Y5) (x6 : Int) (t18 : Y3) (t19 : Int) (t20 : Int) (t29 : Y4) (t30 : Int) (t31 : Bool) (t32 : Bool) (t34 : Y4) (t35 : Int) (t36 : Int) : Option ((Y5 × (Bool × Unit)) × Unit) := zz33_l11 N (zz33_a11 rec) N n4 o5 x6 t18 t19 t20 t29 t30 t31 t32 t34 t35 t36
def zz33_l6 (N : Nat) (k : Y5 → Option ((Y5 × (Bool × Unit)) × Unit)) : Nat → Int → Y5 → Y3 → Int → Int → Option ((Y5 × (Bool × Unit)) × Unit)
  | 0, _, _, _, _, _ => none
  | m + 1, n4, o5, t18, t19, t20 => zz33_b6 (zz33_F11 N (zz33_l6 N k m) k) k n4 o5 t18 t19 t20
def zz33_F6 (N : Nat) (n4 : Int) (o5 : Y5) (t18 : Y3) (t19 : Int) (t20 : Int) : Option ((Y5 × (Bool × Unit)) × Unit) := zz33_l6 N (zz33_a6) N n4 o5 t18 t19 t20
def zz33 (N : Nat) (p_0 : Y2) : Option ((Y5 × (Bool × Unit)) × Unit) := zz33_s (zz33_F6 N) p_0
def S_zz33 : Sig := { a := (.pair (.pair (.sl (.sl I)) .unit) .unit), md := [0], mf := [], m := .unit, r := (.tup (.pair (.sl (.sl .bool)) (.pair .bool .unit))), rf := (.p (.o (.o .i)) .i), f := fun x => zz33 big x.1 }
def A_zz33 : Cfg := mkCfg tab [(61, S_zz29), (62, S_zz30), (63, S_zz31), (64, S_zz32)] [(12, [.drop, .drop, .drop, .drop, .as I .i, .as (.sl (.sl .bool)) (.o (.o .i)), .drop, .drop, .drop, .drop, .drop, .drop, .drop, .drop, .drop, .drop, .drop, .drop, .as (.sl (.sl I)) .i, .as I .i, .as I .i]), (22, [.drop, .drop, .drop, .drop, .as I .i, .as (.sl (.sl .bool)) (.o (.o .i)), .as I .i, .drop, .drop, .drop, .drop, .drop, .drop, .drop, .drop, .drop, .drop, .drop, .as (.sl (.sl I)) .i, .as I .i, .as I .i, .drop, .drop, .drop, .drop, .drop, .drop, .drop, .drop, .as (.sl I) .i, .as I .i, .as .bool .i, .as .bool .i, .drop, .as (.sl I) .i, .as I .i, .as I .i]), (33, [.drop, .drop, .drop, .drop, .drop, .as (.sl (.sl .bool)) (.o (.o .i))]), (31, [.drop, .drop, .drop, .drop, .as I .i, .as (.sl (.sl .bool)) (.o (.o .i)), .drop, .drop, .drop, .drop, .drop, .drop, .drop, .drop, .drop, .drop, .drop, .drop, .as (.sl (.sl I)) .i, .as I .i, .as I .i, .drop, .drop, .drop, .drop, .drop, .drop, .drop, .drop, .as (.sl I) .i, .as I .i, .as .bool .i, .as .bool .i])]
noncomputable def zz33_R6 (N n : Nat) (K : Ex → St → Option ((Y5 × (Bool × Unit)) × Unit)) (n4 : Int) (o5 : Y5) (t18 : Y3) (t19 : Int) (t20 : Int) : Option ((Y5 × (Bool × Unit)) × Unit) := iter ((A_zz33).shape 12) (run (A_zz33) N (codeAt Try.f54 [1, 1, 1, 1, 0, 1, 0, 0])) n ([.u, .u, .u, .u, .val I .i n4, .val (.sl (.sl .bool)) (.o (.o .i)) o5, .u, .u, .u, .u, .u, .u, .u, .u, .u, .u, .u, .u, .val (.sl (.sl I)) .i t18, .val I .i t19, .val I .i t20] ++ List.replicate 30 .u) K
noncomputable def zz33_R11 (N n : Nat) (K : Ex → St → Option ((Y5 × (Bool × Unit)) × Unit)) (n4 : Int) (o5 : Y5) (x6 : Int) (t18 : Y3) (t19 : Int) (t20 : Int) (t29 : Y4) (t30 : Int) (t31 : Bool) (t32 : Bool) (t34 : Y4) (t35 : Int) (t36 : Int) : Option ((Y5 × (Bool × Unit)) × Unit) := iter ((A_zz33).shape 22) (run (A_zz33) N (codeAt Try.f54 [1, 1, 1, 1, 0, 1, 0, 0, 1, 1, 0, 0, 1, 1, 1, 0, 0])) n ([.u, .u, .u, .u, .val I .i n4, .val (.sl (.sl .bool)) (.o (.o .i)) o5, .val I .i x6, .u, .u, .u, .u, .u, .u, .u, .u, .u, .u, .u, .val (.sl (.sl I)) .i t18, .val I .i t19, .val I .i t20, .u, .u, .u, .u, .u, .u, .u, .u, .val (.sl I) .i t29, .val I .i t30, .val .bool .i t31, .val .bool .i t32, .u, .val (.sl I) .i t34, .val I .i t35, .val I .i t36] ++ List.replicate 14 .u) K
noncomputable abbrev zz33_z : Ex → St → Option ((Y5 × (Bool × Unit)) × Unit) := finish (A_zz33) S_zz33 Try.f54.results.toList
noncomputable abbrev zz33_X6 (kX : St → Option ((Y5 × (Bool × Unit)) × Unit)) : Y5 → Option ((Y5 × (Bool × Unit)) × Unit) := fun (o5 : Y5) => kX ([.u, .u, .u, .u, .u, .val (.sl (.sl .bool)) (.o (.o .i)) o5] ++ List.replicate 45 .u)
noncomputable abbrev zz33_E6 (kX : St → Option ((Y5 × (Bool × Unit)) × Unit)) (kO : Nat → St → Option ((Y5 × (Bool × Unit)) × Unit)) : Ex → St → Option ((Y5 × (Bool × Unit)) × Unit) := exK zz33_z 0 ((A_zz33).shape 33) kX kO
noncomputable abbrev zz33_X11 (kX : St → Option ((Y5 × (Bool × Unit)) × Unit)) : Int → Y5 → Y3 → Int → Int → Y4 → Int → Bool → Bool → Option ((Y5 × (Bool × Unit)) × Unit) := fun (n4 : Int) (o5 : Y5) (t18 : Y3) (t19 : Int) (t20 : Int) (t29 : Y4) (t30 : Int) (t31 : Bool) (t32 : Bool) => kX ([.u, .u, .u, .u, .val I .i n4, .val (.sl (.sl .bool)) (.o (.o .i)) o5, .u, .u, .u, .u, .u, .u, .u, .u, .u, .u, .u, .u, .val (.sl (.sl I)) .i t18, .val I .i t19, .val I .i t20, .u, .u, .u, .u, .u, .u, .u, .u, .val (.sl I) .i t29, .val I .i t30, .val .bool .i t31, .val .bool .i t32] ++ List.replicate 18 .u)
noncomputable abbrev zz33_E11 (kX : St → Option ((Y5 × (Bool × Unit)) × Unit)) (kO : Nat → St → Option ((Y5 × (Bool × Unit)) × Unit)) : Ex → St → Option ((Y5 × (Bool × Unit)) × Unit) := exK zz33_z 2 ((A_zz33).shape 31) kX kO
theorem zz33_step11 (N : Nat) (m : Nat) (kX : St → Option ((Y5 × (Bool × Unit)) × Unit)) (kO : Nat → St → Option ((Y5 × (Bool × Unit)) × Unit)) (n4 : Int) (o5 : Y5) (x6 : Int) (t18 : Y3) (t19 : Int) (t20 : Int) (t29 : Y4) (t30 : Int) (t31 : Bool) (t32 : Bool) (t34 : Y4) (t35 : Int) (t36 : Int) : zz33_R11 N (m + 1) (zz33_E11 kX kO) n4 o5 x6 t18 t19 t20 t29 t30 t31 t32 t34 t35 t36 = zz33_b11 (zz33_R11 N m (zz33_E11 kX kO)) (zz33_X11 kX) n4 o5 x6 t18 t19 t20 t29 t30 t31 t32 t34 t35 t36 := by kernel_rfl
theorem zz33_iter11 (N : Nat) (kX : St → Option ((Y5 × (Bool × Unit)) × Unit)) (kO : Nat → St → Option ((Y5 × (Bool × Unit)) × Unit)) : ∀ (n : Nat) (n4 : Int) (o5 : Y5) (x6 : Int) (t18 : Y3) (t19 : Int) (t20 : Int) (t29 : Y4) (t30 : Int) (t31 : Bool) (t32 : Bool) (t34 : Y4) (t35 : Int) (t36 : Int), zz33_R11 N n (zz33_E11 kX kO) n4 o5 x6 t18 t19 t20 t29 t30 t31 t32 t34 t35 t36 = zz33_l11 N (zz33_X11 kX) n n4 o5 x6 t18 t19 t20 t29 t30 t31 t32 t34 t35 t36
  | 0, _, _, _, _, _, _, _, _, _, _, _, _, _ => rfl
  | m + 1, n4, o5, x6, t18, t19, t20, t29, t30, t31, t32, t34, t35, t36 => by
    have hrec : zz33_R11 N m (zz33_E11 kX kO) = (zz33_l11 N (zz33_X11 kX) m) := (funext fun n4 => (funext fun o5 => (funext fun x6 => (funext fun t18 => (funext fun t19 => (funext fun t20 => (funext fun t29 => (funext fun t30 => (funext fun t31 => (funext fun t32 => (funext fun t34 => (funext fun t35 => (funext fun t36 => zz33_iter11 N kX kO m n4 o5 x6 t18 t19 t20 t29 t30 t31 t32 t34 t35 t36)))))))))))))
    refine (zz33_step11 N m kX kO n4 o5 x6 t18 t19 t20 t29 t30 t31 t32 t34 t35 t36).trans ?_
    rw [hrec]
    rfl
noncomputable abbrev zz33_K11 (N : Nat) (m : Nat) (kX : St → Option ((Y5 × (Bool × Unit)) × Unit)) (kO : Nat → St → Option ((Y5 × (Bool × Unit)) × Unit)) : Ex → St → Option ((Y5 × (Bool × Unit)) × Unit) := (blockK 2 (blockK 1 (seqK ((A_zz33).shape 31) (run (A_zz33) N (codeAt Try.f54 [1, 1, 1, 1, 0, 1, 0, 0, 1, 1, 1])) (iterK ((A_zz33).shape 12) (run (A_zz33) N (codeAt Try.f54 [1, 1, 1, 1, 0, 1, 0, 0])) m (zz33_E6 kX kO)))))
noncomputable abbrev zz33_k11 (N : Nat) (m : Nat) (kX : St → Option ((Y5 × (Bool × Unit)) × Unit)) (kO : Nat → St → Option ((Y5 × (Bool × Unit)) × Unit)) : St → Option ((Y5 × (Bool × Unit)) × Unit) := fun st' => run (A_zz33) N (codeAt Try.f54 [1, 1, 1, 1, 0, 1, 0, 0, 1, 1, 1]) st' (iterK ((A_zz33).shape 12) (run (A_zz33) N (codeAt Try.f54 [1, 1, 1, 1, 0, 1, 0, 0])) m (zz33_E6 kX kO))
theorem zz33_after11 (N : Nat) (m : Nat) (kX : St → Option ((Y5 × (Bool × Unit)) × Unit)) (kO : Nat → St → Option ((Y5 × (Bool × Unit)) × Unit)) (n4 : Int) (o5 : Y5) (t18 : Y3) (t19 : Int) (t20 : Int) (t29 : Y4) (t30 : Int) (t31 : Bool) (t32 : Bool) : zz33_X11 (zz33_k11 N m kX kO) n4 o5 t18 t19 t20 t29 t30 t31 t32 = zz33_a11 (zz33_R6 N m (zz33_E6 kX kO)) n4 o5 t18 t19 t20 t29 t30 t31 t32 := by kernel_rfl
theorem zz33_in11 (N : Nat) (m : Nat) (kX : St → Option ((Y5 × (Bool × Unit)) × Unit)) (kO : Nat → St → Option ((Y5 × (Bool × Unit)) × Unit)) (recF : Int → Y5 → Y3 → Int → Int → Option ((Y5 × (Bool × Unit)) × Unit)) (hrec : zz33_R6 N m (zz33_E6 kX kO) = recF) (n4 : Int) (o5 : Y5) (x6 : Int) (t18 : Y3) (t19 : Int) (t20 : Int) (t29 : Y4) (t30 : Int) (t31 : Bool) (t32 : Bool) (t34 : Y4) (t35 : Int) (t36 : Int) : zz33_R11 N N (zz33_K11 N m kX kO) n4 o5 x6 t18 t19 t20 t29 t30 t31 t32 t34 t35 t36 = zz33_F11 N recF (zz33_X6 kX) n4 o5 x6 t18 t19 t20 t29 t30 t31 t32 t34 t35 t36 :=
  have h : zz33_X11 (zz33_k11 N m kX kO) = (zz33_a11 recF) := (funext fun n4 => (funext fun o5 => (funext fun t18 => (funext fun t19 => (funext fun t20 => (funext fun t29 => (funext fun t30 => (funext fun t31 => (funext fun t32 => (zz33_after11 N m kX kO n4 o5 t18 t19 t20 t29 t30 t31 t32).trans (by rw [hrec]))))))))))
  ((iter_ex (fun st => by kernel_rfl) (fun st => by kernel_rfl)).trans (zz33_iter11 N (zz33_k11 N m kX kO) (fun j st => (zz33_K11 N m kX kO) (.exit j) st) N n4 o5 x6 t18 t19 t20 t29 t30 t31 t32 t34 t35 t36)).trans (congrArg (fun k => zz33_l11 N k N n4 o5 x6 t18 t19 t20 t29 t30 t31 t32 t34 t35 t36) h)
theorem zz33_step6 (N : Nat) (m : Nat) (kX : St → Option ((Y5 × (Bool × Unit)) × Unit)) (kO : Nat → St → Option ((Y5 × (Bool × Unit)) × Unit)) (n4 : Int) (o5 : Y5) (t18 : Y3) (t19 : Int) (t20 : Int) : zz33_R6 N (m + 1) (zz33_E6 kX kO) n4 o5 t18 t19 t20 = zz33_b6 (zz33_R11 N N (zz33_K11 N m kX kO)) (zz33_X6 kX) n4 o5 t18 t19 t20 := by kernel_rfl
theorem zz33_iter6 (N : Nat) (kX : St → Option ((Y5 × (Bool × Unit)) × Unit)) (kO : Nat → St → Option ((Y5 × (Bool × Unit)) × Unit)) : ∀ (n : Nat) (n4 : Int) (o5 : Y5) (t18 : Y3) (t19 : Int) (t20 : Int), zz33_R6 N n (zz33_E6 kX kO) n4 o5 t18 t19 t20 = zz33_l6 N (zz33_X6 kX) n n4 o5 t18 t19 t20
  | 0, _, _, _, _, _ => rfl
  | m + 1, n4, o5, t18, t19, t20 => by
    have hrec : zz33_R6 N m (zz33_E6 kX kO) = (zz33_l6 N (zz33_X6 kX) m) := (funext fun n4 => (funext fun o5 => (funext fun t18 => (funext fun t19 => (funext fun t20 => zz33_iter6 N kX kO m n4 o5 t18 t19 t20)))))
    refine (zz33_step6 N m kX kO n4 o5 t18 t19 t20).trans ?_
    rw [(funext fun n4 => (funext fun o5 => (funext fun x6 => (funext fun t18 => (funext fun t19 => (funext fun t20 => (funext fun t29 => (funext fun t30 => (funext fun t31 => (funext fun t32 => (funext fun t34 => (funext fun t35 => (funext fun t36 => zz33_in11 N m kX kO (zz33_l6 N (zz33_X6 kX) m) hrec n4 o5 x6 t18 t19 t20 t29 t30 t31 t32 t34 t35 t36)))))))))))))]
    rfl
noncomputable abbrev zz33_K6 (N : Nat) : Ex → St → Option ((Y5 × (Bool × Unit)) × Unit) := (blockK 0 (seqK ((A_zz33).shape 33) (run (A_zz33) N (codeAt Try.f54 [1, 1, 1, 1, 1])) zz33_z))
noncomputable abbrev zz33_k6 (N : Nat) : St → Option ((Y5 × (Bool × Unit)) × Unit) := fun st' => run (A_zz33) N (codeAt Try.f54 [1, 1, 1, 1, 1]) st' zz33_z
theorem zz33_after6 (N : Nat) (o5 : Y5) : zz33_X6 (zz33_k6 N) o5 = zz33_a6 o5 := by kernel_rfl
theorem zz33_in6 (N : Nat) (n4 : Int) (o5 : Y5) (t18 : Y3) (t19 : Int) (t20 : Int) : zz33_R6 N N (zz33_K6 N) n4 o5 t18 t19 t20 = zz33_F6 N n4 o5 t18 t19 t20 :=
  have h : zz33_X6 (zz33_k6 N) = (zz33_a6) := (funext fun o5 => zz33_after6 N o5)
  ((iter_ex (fun st => by kernel_rfl) (fun st => by kernel_rfl)).trans (zz33_iter6 N (zz33_k6 N) (fun j st => (zz33_K6 N) (.exit j) st) N n4 o5 t18 t19 t20)).trans (congrArg (fun k => zz33_l6 N k N n4 o5 t18 t19 t20) h)
theorem run0_zz33 (N : Nat) (x : (S_zz33).a.den) : runF (A_zz33) N Try.f54 S_zz33 x = (zz33_s (zz33_R6 N N (zz33_K6 N)) x.1) := by kernel_rfl
theorem run_zz33 (N : Nat) (x : (S_zz33).a.den) : runF (A_zz33) N Try.f54 S_zz33 x = zz33 N x.1 := by
  refine (run0_zz33 N x).trans ?_
  rw [(funext fun n4 => (funext fun o5 => (funext fun t18 => (funext fun t19 => (funext fun t20 => zz33_in6 N n4 o5 t18 t19 t20)))))]
  rfl
theorem fn_zz33 : FnOk Try.prog 54 := ⟨_, Try.func54, by kernel_rfl, by kernel_rfl⟩
theorem good_zz33 : Gx.Good Try.prog 54 S_zz33 := good_of_run Try.func54 (of_decide_eq_true (by kernel_rfl)) fun x r h => ⟨A_zz33, big, mkCfg_ok tabOk, mkCfg_sigs (show SigsOk Try.prog [(61, S_zz29), (62, S_zz30), (63, S_zz31), (64, S_zz32)] from ⟨⟨fn_zz29, good_zz29⟩, ⟨fn_zz30, good_zz30⟩, ⟨fn_zz31, good_zz31⟩, ⟨fn_zz32, good_zz32⟩, trivial⟩), (run_zz33 big x).trans h⟩

/-! zz34 -/
def zz34_b6 (rec : Y5 → Y4 → Int → Bool → Y4 → Int → Int → Y4 → Int → Int → Option (Int × Unit)) (k : Y5 → Y4 → Int → Bool → Y4 → Int → Int → Option (Int × Unit)) (o0 : Y5) (list1 : Y4) (x6 : Int) (top7 : Bool) (t10 : Y4) (t11 : Int) (t12 : Int) (t16 : Y4) (t17 : Int) (t18 : Int) : Option (Int × Unit) :=
  cond (decide (t18 < t17))
  ((atI t16 t18).bind fun xq2 =>
  cond top7
  ((atI o0 xq2).bind fun xq3 =>
  (atI xq3 x6).bind fun xq4 =>
  rec o0 list1 x6 xq4 t10 t11 t12 t16 t17 (IntKind.i64.wrap (t18 + (1 : Int))))
  (rec o0 list1 x6 false t10 t11 t12 t16 t17 (IntKind.i64.wrap (t18 + (1 : Int)))))
  (k o0 list1 x6 top7 t10 t11 t12)
def zz34_a6 (rec : Y5 → Y4 → Y4 → Int → Int → Option (Int × Unit)) (o0 : Y5) (list1 : Y4) (x6 : Int) (top7 : Bool) (t10 : Y4) (t11 : Int) (t12 : Int) : Option (Int × Unit) :=
  cond top7
  (some (x6, (())))
  (rec o0 list1 t10 t11 (IntKind.i64.wrap (t12 + (1 : Int))))
def zz34_b2 (L6 : Y5 → Y4 → Int → Bool → Y4 → Int → Int → Y4 → Int → Int → Option (Int × Unit)) (k : Option (Int × Unit)) (o0 : Y5) (list1 : Y4) (t10 : Y4) (t11 : Int) (t12 : Int) : Option (Int × Unit) :=
  cond (decide (t12 < t11))
  ((atI t10 t12).bind fun xq1 =>
  L6 o0 list1 xq1 true t10 t11 t12 list1 (list1.length : Int) (0 : Int))
  (k)
def zz34_a2 : Option (Int × Unit) :=
  some ((-1 : Int), (()))
def zz34_s (L2 : Y5 → Y4 → Y4 → Int → Int → Option (Int × Unit)) (o_0 : Y5) (list_1 : Y4) : Option (Int × Unit) :=
  L2 o_0 list_1 list_1 (list_1.length : Int) (0 : Int)
def zz34_l6 (N : Nat) (k : Y5 → Y4 → Int → Bool → Y4 → Int → Int → Option (Int × Unit)) : Nat → Y5 → Y4 → Int → Bool → Y4 → Int → Int → Y4 → Int → Int → Option (Int × Unit)
  | 0, _, _, _, _, _, _, _, _, _, _ => none
  | m + 1, o0, list1, x6, top7, t10, t11, t12, t16, t17, t18 => zz34_b6 (zz34_l6 N k m) k o0 list1 x6 top7 t10 t11 t12 t16 t17 t18
def zz34_F6 (N : Nat) (rec : Y5 → Y4 → Y4 → Int → Int → Option (Int × Unit)) (k : Option (Int × Unit)) (o0 : Y5) (list1 : Y4) (x6 : Int) (top7 : Bool) (t10 : Y4) (t11 : Int) (t12 : Int) (t16 : Y4) (t17 : Int) (t18 : Int) : Option (Int × Unit) := zz34_l6 N (zz34_a6 rec) N o0 list1 x6 top7 t10 t11 t12 t16 t17 t18
def zz34_l2 (N : Nat) (k : Option (Int × Unit)) : Nat → Y5 → Y4 → Y4 → Int → Int → Option (Int × Unit)
  | 0, _, _, _, _, _ => none
  | m + 1, o0, list1, t10, t11, t12 => zz34_b2 (zz34_F6 N (zz34_l2 N k m) k) k o0 list1 t10 t11 t12
def zz34_F2 (N : Nat) (o0 : Y5) (list1 : Y4) (t10 : Y4) (t11 : Int) (t12 : Int) : Option (Int × Unit) := zz34_l2 N (zz34_a2) N o0 list1 t10 t11 t12
def zz34 (N : Nat) (o_0 : Y5) (list_1 : Y4) : Option (Int × Unit) := zz34_s (zz34_F2 N) o_0 list_1
def S_zz34 : Sig := { a := (.pair (.sl (.sl .bool)) (.pair (.sl I) .unit)), md := [0, 0], mf := [], m := .unit, r := I, rf := .i, f := fun x => zz34 big x.1 x.2.1 }
def A_zz34 : Cfg := mkCfg tab [] [(4, [.as (.sl (.sl .bool)) .i, .as (.sl I) .i, .drop, .drop, .drop, .drop, .drop, .drop, .drop, .drop, .as (.sl I) .i, .as I .i, .as I .i]), (12, [.as (.sl (.sl .bool)) .i, .as (.sl I) .i, .drop, .drop, .drop, .drop, .as I .i, .as .bool .i, .drop, .drop, .as (.sl I) .i, .as I .i, .as I .i, .drop, .drop, .drop, .as (.sl I) .i, .as I .i, .as I .i]), (27, []), (21, [.as (.sl (.sl .bool)) .i, .as (.sl I) .i, .drop, .drop, .drop, .drop, .as I .i, .as .bool .i, .drop, .drop, .as (.sl I) .i, .as I .i, .as I .i])]
noncomputable def zz34_R2 (N n : Nat) (K : Ex → St → Option (Int × Unit)) (o0 : Y5) (list1 : Y4) (t10 : Y4) (t11 : Int) (t12 : Int) : Option (Int × Unit) := iter ((A_zz34).shape 4) (run (A_zz34) N (codeAt Try.f65 [1, 0, 1, 0, 0])) n ([.val (.sl (.sl .bool)) .i o0, .val (.sl I) .i list1, .u, .u, .u, .u, .u, .u, .u, .u, .val (.sl I) .i t10, .val I .i t11, .val I .i t12] ++ List.replicate 23 .u) K
noncomputable def zz34_R6 (N n : Nat) (K : Ex → St → Option (Int × Unit)) (o0 : Y5) (list1 : Y4) (x6 : Int) (top7 : Bool) (t10 : Y4) (t11 : Int) (t12 : Int) (t16 : Y4) (t17 : Int) (t18 : Int) : Option (Int × Unit) := iter ((A_zz34).shape 12) (run (A_zz34) N (codeAt Try.f65 [1, 0, 1, 0, 0, 1, 1, 0, 0, 1, 1, 0, 1, 0, 0])) n ([.val (.sl (.sl .bool)) .i o0, .val (.sl I) .i list1, .u, .u, .u, .u, .val I .i x6, .val .bool .i top7, .u, .u, .val (.sl I) .i t10, .val I .i t11, .val I .i t12, .u, .u, .u, .val (.sl I) .i t16, .val I .i t17, .val I .i t18] ++ List.replicate 17 .u) K
noncomputable abbrev zz34_z : Ex → St → Option (Int × Unit) := finish (A_zz34) S_zz34 Try.f65.results.toList
noncomputable abbrev zz34_X2 (kX : St → Option (Int × Unit)) : Option (Int × Unit) := kX ([] ++ List.replicate 36 .u)
noncomputable abbrev zz34_E2 (kX : St → Option (Int × Unit)) (kO : Nat → St → Option (Int × Unit)) : Ex → St → Option (Int × Unit) := exK zz34_z 0 ((A_zz34).shape 27) kX kO
noncomputable abbrev zz34_X6 (kX : St → Option (Int × Unit)) : Y5 → Y4 → Int → Bool → Y4 → Int → Int → Option (Int × Unit) := fun (o0 : Y5) (list1 : Y4) (x6 : Int) (top7 : Bool) (t10 : Y4) (t11 : Int) (t12 : Int) => kX ([.val (.sl (.sl .bool)) .i o0, .val (.sl I) .i list1, .u, .u, .u, .u, .val I .i x6, .val .bool .i top7, .u, .u, .val (.sl I) .i t10, .val I .i t11, .val I .i t12] ++ List.replicate 23 .u)
noncomputable abbrev zz34_E6 (kX : St → Option (Int × Unit)) (kO : Nat → St → Option (Int × Unit)) : Ex → St → Option (Int × Unit) := exK zz34_z 2 ((A_zz34).shape 21) kX kO
theorem zz34_step6 (N : Nat) (m : Nat) (kX : St → Option (Int × Unit)) (kO : Nat → St → Option (Int × Unit)) (o0 : Y5) (list1 : Y4) (x6 : Int) (top7 : Bool) (t10 : Y4) (t11 : Int) (t12 : Int) (t16 : Y4) (t17 : Int) (t18 : Int) : zz34_R6 N (m + 1) (zz34_E6 kX kO) o0 list1 x6 top7 t10 t11 t12 t16 t17 t18 = zz34_b6 (zz34_R6 N m (zz34_E6 kX kO)) (zz34_X6 kX) o0 list1 x6 top7 t10 t11 t12 t16 t17 t18 := by kernel_rfl
theorem zz34_iter6 (N : Nat) (kX : St → Option (Int × Unit)) (kO : Nat → St → Option (Int × Unit)) : ∀ (n : Nat) (o0 : Y5) (list1 : Y4) (x6 : Int) (top7 : Bool) (t10 : Y4) (t11 : Int) (t12 : Int) (t16 : Y4) (t17 : Int) (t18 : Int), zz34_R6 N n (zz34_E6 kX kO) o0 list1 x6 top7 t10 t11 t12 t16 t17 t18 = zz34_l6 N (zz34_X6 kX) n o0 list1 x6 top7 t10 t11 t12 t16 t17 t18
  | 0, _, _, _, _, _, _, _, _, _, _ => rfl
  | m + 1, o0, list1, x6, top7, t10, t11, t12, t16, t17, t18 => by
    have hrec : zz34_R6 N m (zz34_E6 kX kO) = (zz34_l6 N (zz34_X6 kX) m) := (funext fun o0 => (funext fun list1 => (funext fun x6 => (funext fun top7 => (funext fun t10 => (funext fun t11 => (funext fun t12 => (funext fun t16 => (funext fun t17 => (funext fun t18 => zz34_iter6 N kX kO m o0 list1 x6 top7 t10 t11 t12 t16 t17 t18))))))))))
    refine (zz34_step6 N m kX kO o0 list1 x6 top7 t10 t11 t12 t16 t17 t18).trans ?_
    rw [hrec]
    rfl
noncomputable abbrev zz34_K6 (N : Nat) (m : Nat) (kX : St → Option (Int × Unit)) (kO : Nat → St → Option (Int × Unit)) : Ex → St → Option (Int × Unit) := (blockK 2 (seqK ((A_zz34).shape 21) (run (A_zz34) N (codeAt Try.f65 [1, 0, 1, 0, 0, 1, 1, 0, 0, 1, 1, 1])) (blockK 1 (seqK ((A_zz34).shape 25) (run (A_zz34) N (codeAt Try.f65 [1, 0, 1, 0, 0, 1, 1, 1])) (iterK ((A_zz34).shape 4) (run (A_zz34) N (codeAt Try.f65 [1, 0, 1, 0, 0])) m (zz34_E2 kX kO))))))
noncomputable abbrev zz34_k6 (N : Nat) (m : Nat) (kX : St → Option (Int × Unit)) (kO : Nat → St → Option (Int × Unit)) : St → Option (Int × Unit) := fun st' => run (A_zz34) N (codeAt Try.f65 [1, 0, 1, 0, 0, 1, 1, 0, 0, 1, 1, 1]) st' (blockK 1 (seqK ((A_zz34).shape 25) (run (A_zz34) N (codeAt Try.f65 [1, 0, 1, 0, 0, 1, 1, 1])) (iterK ((A_zz34).shape 4) (run (A_zz34) N (codeAt Try.f65 [1, 0, 1, 0, 0])) m (zz34_E2 kX kO))))
theorem zz34_after6 (N : Nat) (m : Nat) (kX : St → Option (Int × Unit)) (kO : Nat → St → Option (Int × Unit)) (o0 : Y5) (list1 : Y4) (x6 : Int) (top7 : Bool) (t10 : Y4) (t11 : Int) (t12 : Int) : zz34_X6 (zz34_k6 N m kX kO) o0 list1 x6 top7 t10 t11 t12 = zz34_a6 (zz34_R2 N m (zz34_E2 kX kO)) o0 list1 x6 top7 t10 t11 t12 := by kernel_rfl
theorem zz34_in6 (N : Nat) (m : Nat) (kX : St → Option (Int × Unit)) (kO : Nat → St → Option (Int × Unit)) (recF : Y5 → Y4 → Y4 → Int → Int → Option (Int × Unit)) (hrec : zz34_R2 N m (zz34_E2 kX kO) = recF) (o0 : Y5) (list1 : Y4) (x6 : Int) (top7 : Bool) (t10 : Y4) (t11 : Int) (t12 : Int) (t16 : Y4) (t17 : Int) (t18 : Int) : zz34_R6 N N (zz34_K6 N m kX kO) o0 list1 x6 top7 t10 t11 t12 t16 t17 t18 = zz34_F6 N recF (zz34_X2 kX) o0 list1 x6 top7 t10 t11 t12 t16 t17 t18 :=
  have h : zz34_X6 (zz34_k6 N m kX kO) = (zz34_a6 recF) := (funext fun o0 => (funext fun list1 => (funext fun x6 => (funext fun top7 => (funext fun t10 => (funext fun t11 => (funext fun t12 => (zz34_after6 N m kX kO o0 list1 x6 top7 t10 t11 t12).trans (by rw [hrec]))))))))
  ((iter_ex (fun st => by kernel_rfl) (fun st => by kernel_rfl)).trans (zz34_iter6 N (zz34_k6 N m kX kO) (fun j st => (zz34_K6 N m kX kO) (.exit j) st) N o0 list1 x6 top7 t10 t11 t12 t16 t17 t18)).trans (congrArg (fun k => zz34_l6 N k N o0 list1 x6 top7 t10 t11 t12 t16 t17 t18) h)
theorem zz34_step2 (N : Nat) (m : Nat) (kX : St → Option (Int × Unit)) (kO : Nat → St → Option (Int × Unit)) (o0 : Y5) (list1 : Y4) (t10 : Y4) (t11 : Int) (t12 : Int) : zz34_R2 N (m + 1) (zz34_E2 kX kO) o0 list1 t10 t11 t12 = zz34_b2 (zz34_R6 N N (zz34_K6 N m kX kO)) (zz34_X2 kX) o0 list1 t10 t11 t12 := by kernel_rfl
theorem zz34_iter2 (N : Nat) (kX : St → Option (Int × Unit)) (kO : Nat → St → Option (Int × Unit)) : ∀ (n : Nat) (o0 : Y5) (list1 : Y4) (t10 : Y4) (t11 : Int) (t12 : Int), zz34_R2 N n (zz34_E2 kX kO) o0 list1 t10 t11 t12 = zz34_l2 N (zz34_X2 kX) n o0 list1 t10 t11 t12
  | 0, _, _, _, _, _ => rfl
  | m + 1, o0, list1, t10, t11, t12 => by
    have hrec : zz34_R2 N m (zz34_E2 kX kO) = (zz34_l2 N (zz34_X2 kX) m) := (funext fun o0 => (funext fun list1 => (funext fun t10 => (funext fun t11 => (funext fun t12 => zz34_iter2 N kX kO m o0 list1 t10 t11 t12)))))
    refine (zz34_step2 N m kX kO o0 list1 t10 t11 t12).trans ?_
    rw [(funext fun o0 => (funext fun list1 => (funext fun x6 => (funext fun top7 => (funext fun t10 => (funext fun t11 => (funext fun t12 => (funext fun t16 => (funext fun t17 => (funext fun t18 => zz34_in6 N m kX kO (zz34_l2 N (zz34_X2 kX) m) hrec o0 list1 x6 top7 t10 t11 t12 t16 t17 t18))))))))))]
    rfl
noncomputable abbrev zz34_K2 (N : Nat) : Ex → St → Option (Int × Unit) := (blockK 0 (seqK ((A_zz34).shape 27) (run (A_zz34) N (codeAt Try.f65 [1, 1])) zz34_z))
noncomputable abbrev zz34_k2 (N : Nat) : St → Option (Int × Unit) := fun st' => run (A_zz34) N (codeAt Try.f65 [1, 1]) st' zz34_z
theorem zz34_after2 (N : Nat) : zz34_X2 (zz34_k2 N) = zz34_a2 := by kernel_rfl
theorem zz34_in2 (N : Nat) (o0 : Y5) (list1 : Y4) (t10 : Y4) (t11 : Int) (t12 : Int) : zz34_R2 N N (zz34_K2 N) o0 list1 t10 t11 t12 = zz34_F2 N o0 list1 t10 t11 t12 :=
  have h : zz34_X2 (zz34_k2 N) = (zz34_a2) := zz34_after2 N
  ((iter_ex (fun st => by kernel_rfl) (fun st => by kernel_rfl)).trans (zz34_iter2 N (zz34_k2 N) (fun j st => (zz34_K2 N) (.exit j) st) N o0 list1 t10 t11 t12)).trans (congrArg (fun k => zz34_l2 N k N o0 list1 t10 t11 t12) h)
theorem run0_zz34 (N : Nat) (x : (S_zz34).a.den) : runF (A_zz34) N Try.f65 S_zz34 x = (zz34_s (zz34_R2 N N (zz34_K2 N)) x.1 x.2.1) := by kernel_rfl
theorem run_zz34 (N : Nat) (x : (S_zz34).a.den) : runF (A_zz34) N Try.f65 S_zz34 x = zz34 N x.1 x.2.1 := by
  refine (run0_zz34 N x).trans ?_
  rw [(funext fun o0 => (funext fun list1 => (funext fun t10 => (funext fun t11 => (funext fun t12 => zz34_in2 N o0 list1 t10 t11 t12)))))]
  rfl
theorem fn_zz34 : FnOk Try.prog 65 := ⟨_, Try.func65, by kernel_rfl, by kernel_rfl⟩
theorem good_zz34 : Gx.Good Try.prog 65 S_zz34 := good_of_run Try.func65 (of_decide_eq_true (by kernel_rfl)) fun x r h => ⟨A_zz34, big, mkCfg_ok tabOk, mkCfg_sigs (show SigsOk Try.prog [] from trivial), (run_zz34 big x).trans h⟩

/-! zz35 -/
def zz35_s (z_0 : Int) (p_1 : Y5) (p_2 : Int) (p_3 : Int) : Option (Bool × Unit) :=
  (atI p_1 z_0).bind fun xq1 =>
  (atI xq1 p_2).bind fun xq2 =>
  cond xq2
  ((atI p_1 z_0).bind fun xq3 =>
  (atI xq3 p_3).bind fun xq4 =>
  some (xq4, (())))
  (some (false, (())))
def zz35 (z_0 : Int) (p_1 : Y5) (p_2 : Int) (p_3 : Int) : Option (Bool × Unit) := zz35_s z_0 p_1 p_2 p_3
def S_zz35 : Sig := { a := (.pair I (.pair (.ptr (.sl (.sl .bool))) (.pair (.ptr I) (.pair (.ptr I) .unit)))), md := [0, 0, 0, 0], mf := [], m := .unit, r := .bool, rf := .i, f := fun x => zz35 x.1 x.2.1 x.2.2.1 x.2.2.2.1 }
def A_zz35 : Cfg := mkCfg tab [] []
theorem run_zz35 (N : Nat) (x : (S_zz35).a.den) : runF (A_zz35) N Try.f67 S_zz35 x = zz35 x.1 x.2.1 x.2.2.1 x.2.2.2.1 := by kernel_rfl
theorem fn_zz35 : FnOk Try.prog 67 := ⟨_, Try.func67, by kernel_rfl, by kernel_rfl⟩
theorem good_zz35 : Gx.Good Try.prog 67 S_zz35 := good_of_run Try.func67 (of_decide_eq_true (by kernel_rfl)) fun x r h => ⟨A_zz35, big, mkCfg_ok tabOk, mkCfg_sigs (show SigsOk Try.prog [] from trivial), (run_zz35 big x).trans h⟩
end Go.Proofs.Yteamfbmkphjcjaa
