import Derived.Test.YtlndlclemhfekaaGxBox
import Derived.Test.YtlndlclemhfekaaRows
import Derived.Test.YtlndlclemhfekaaChecked
import Derived.KernelRfl
set_option maxRecDepth 100000
set_option linter.unusedVariables false
namespace Go.Proofs.Ytlndlclemhfekaa
open Go Go.Gx Go.Proofs

abbrev I := Ty.int .i64
abbrev Y1 := (Option ((List (List Bool)) × ((List (List Int)) × ((List (List Int)) × Unit))))
abbrev Y2 := ((List (List Int)) × Unit)
abbrev Y7 := (Int × ((List (Int × ((List Int) × Unit))) × Unit))
abbrev Y6 := (Int × ((List Int) × Unit))
abbrev Y3 := (List (List Int))
abbrev Y4 := (List Int)
abbrev Y5 := (List (List Bool))
abbrev Z0 := Option (Bool × Unit)
abbrev Z1 := Option ((Y3 × (Bool × Unit)) × Unit)
abbrev Z2 := Option (Y4 × Unit)
abbrev Z3 := Option (Int × Unit)
abbrev Z4 := Option (Bool × (Y4 × Unit))
abbrev Z5 := Option ((Y5 × (Bool × Unit)) × Unit)
abbrev Z6 := Option (Y5 × Unit)
abbrev Z7 := (List ((List UInt8) × Bool))
abbrev Z8 := Option (Y7 × Unit)
abbrev Z9 := Option (Y2 × Unit)
abbrev Z10 := Option ((List UInt8) × Unit)
abbrev Z11 := (Int × (Int × Unit))
abbrev Z12 := Option (Y6 × Unit)
abbrev Z13 := (List Y6)
def tab : Tab := { es := [(22, (.sl I), (.o .i)), (38, I, .i), (49, (.sl .bool), (.o .i)), (62, (.pair I (.pair (.sl I) .unit)), (.p .i (.p (.o .i) .i))), (79, .bool, .i), (127, (.pair I (.pair I .unit)), .i), (129, (.int .u8), .i)], ts := [(3, I, .i), (4, .bool, .i), (5, (.int .u8), .i), (9, .str, .i), (22, (.sl (.sl I)), (.o (.o .i))), (24, (.pair (.sl (.sl I)) .unit), (.p (.o (.o .i)) .i)), (28, (.pair (.sl (.sl I)) .unit), (.p (.o (.o .i)) .i)), (38, (.sl I), (.o .i)), (43, (.opt (.pair (.sl (.sl .bool)) (.pair (.sl (.sl I)) (.pair (.sl (.sl I)) .unit)))), .i), (49, (.sl (.sl .bool)), (.o (.o .i))), (51, (.pair (.sl (.sl .bool)) (.pair (.sl (.sl I)) (.pair (.sl (.sl I)) .unit))), (.p (.o (.o .i)) (.p (.o (.o .i)) (.p (.o (.o .i)) .i)))), (62, (.sl (.pair I (.pair (.sl I) .unit))), (.o (.p .i (.p (.o .i) .i)))), (64, (.pair I (.pair (.sl (.pair I (.pair (.sl I) .unit))) .unit)), (.p .i (.p (.o (.p .i (.p (.o .i) .i))) .i))), (79, (.sl .bool), (.o .i)), (89, (.pair I (.pair (.sl I) .unit)), (.p .i (.p (.o .i) .i))), (122, (.pair I (.pair I .unit)), .i), (127, (.sl (.pair I (.pair I .unit))), (.o .i)), (129, (.sl (.int .u8)), (.o .i))], fs := [(24, [((.sl (.sl I)), (.o (.o .i)))]), (28, [((.sl (.sl I)), (.o (.o .i)))]), (51, [((.sl (.sl .bool)), (.o (.o .i))), ((.sl (.sl I)), (.o (.o .i))), ((.sl (.sl I)), (.o (.o .i)))]), (64, [(I, .i), ((.sl (.pair I (.pair (.sl I) .unit))), (.o (.p .i (.p (.o .i) .i))))]), (89, [(I, .i), ((.sl I), (.o .i))])], ars := [(122, I, .i, 2)], ms := [(124, .str, .bool)] }
theorem tabOk : tab.chk Try.prog = true := by kernel_rfl

/-! zz0 -/
def zz0_s (a_0 : Y4) (left_1 : Int) : Z3 :=
  cond (decide ((IntKind.i64.wrap (left_1 - (a_0.length : Int))) < (0 : Int)))
  (some ((-1 : Int), (())))
  (some (IntKind.i64.wrap (left_1 - (a_0.length : Int)), (())))
def zz0 (a_0 : Y4) (left_1 : Int) : Z3 := zz0_s a_0 left_1
def S_zz0 : Sig := { a := (.pair (.sl I) (.pair I .unit)), md := [0, 0], mf := [], m := .unit, r := I, rf := .i, f := fun x => zz0 x.1 x.2.1 }
def A_zz0 : Cfg := mkCfg tab [] []
theorem run_zz0 (N : Nat) (x : (S_zz0).a.den) : runF (A_zz0) N Try.f55 S_zz0 x = zz0 x.1 x.2.1 := by kernel_rfl
theorem fn_zz0 : FnOk Try.prog 55 := ⟨_, Try.func55, by kernel_rfl, by kernel_rfl⟩
theorem good_zz0 : Gx.Good Try.prog 55 S_zz0 := good_of_run Try.func55 (of_decide_eq_true (by kernel_rfl)) fun x r h => ⟨A_zz0, big, mkCfg_ok tabOk, mkCfg_sigs (show SigsOk Try.prog [] from trivial), (run_zz0 big x).trans h⟩

/-! zz1 -/
def zz1_b5 (rec : Y3 → Int → Int → Z3) (k : Int → Z3) (a0 : Y3) (left1 i5 : Int) : Z3 :=
  cond (decide (i5 < (a0.length : Int)))
  ((atI a0 i5).bind fun xq1 =>
  (zz0 xq1 left1).bind fun rq2 =>
  cond (decide (rq2.1 < (0 : Int)))
  (some ((-1 : Int), (())))
  (rec a0 rq2.1 (IntKind.i64.wrap (i5 + (1 : Int)))))
  (k left1)
def zz1_a5 (left1 : Int) : Z3 :=
  some (left1, (()))
def zz1_s (L5 : Y3 → Int → Int → Z3) (a_0 : Y3) (left_1 : Int) : Z3 :=
  cond (decide ((IntKind.i64.wrap (left_1 - (a_0.length : Int))) < (0 : Int)))
  (some ((-1 : Int), (())))
  (L5 a_0 (IntKind.i64.wrap (left_1 - (a_0.length : Int))) (0 : Int))
def zz1_l5 (N : Nat) (k : Int → Z3) : Nat → Y3 → Int → Int → Z3
  | 0, _, _, _ => none
  | m + 1, a0, left1, i5 => zz1_b5 (zz1_l5 N k m) k a0 left1 i5
def zz1_F5 (N : Nat) (a0 : Y3) (left1 i5 : Int) : Z3 := zz1_l5 N (zz1_a5) N a0 left1 i5
def zz1 (N : Nat) (a_0 : Y3) (left_1 : Int) : Z3 := zz1_s (zz1_F5 N) a_0 left_1
def S_zz1 : Sig := { a := (.pair (.sl (.sl I)) (.pair I .unit)), md := [0, 0], mf := [], m := .unit, r := I, rf := .i, f := fun x => zz1 big x.1 x.2.1 }
def A_zz1 : Cfg := mkCfg tab [(55, S_zz0)] [(10, [.as (.sl (.sl I)) .i, .as I .i, .drop, .drop, .drop, .as I .i]), (21, [.drop, .as I .i])]
noncomputable def zz1_R5 (N n : Nat) (K : Ex → St → Z3) (a0 : Y3) (left1 i5 : Int) : Z3 := iter ((A_zz1).shape 10) (run (A_zz1) N (codeAt Try.f22 [1, 1, 1, 0, 1, 0, 0])) n ([.val (.sl (.sl I)) .i a0, .val I .i left1, .u, .u, .u, .val I .i i5] ++ List.replicate 21 .u) K
noncomputable abbrev zz1_z : Ex → St → Z3 := finish (A_zz1) S_zz1 Try.f22.results.toList
noncomputable abbrev zz1_X5 (kX : St → Z3) : Int → Z3 := fun (left1 : Int) => kX ([.u, .val I .i left1] ++ List.replicate 25 .u)
noncomputable abbrev zz1_E5 (kX : St → Z3) (kO : Nat → St → Z3) : Ex → St → Z3 := exK zz1_z 0 ((A_zz1).shape 21) kX kO
theorem zz1_step5 (N m : Nat) (kX : St → Z3) (kO : Nat → St → Z3) (a0 : Y3) (left1 i5 : Int) : zz1_R5 N (m + 1) (zz1_E5 kX kO) a0 left1 i5 = zz1_b5 (zz1_R5 N m (zz1_E5 kX kO)) (zz1_X5 kX) a0 left1 i5 := by kernel_rfl
theorem zz1_iter5 (N : Nat) (kX : St → Z3) (kO : Nat → St → Z3) : ∀ (n : Nat) (a0 : Y3) (left1 i5 : Int), zz1_R5 N n (zz1_E5 kX kO) a0 left1 i5 = zz1_l5 N (zz1_X5 kX) n a0 left1 i5
  | 0, _, _, _ => rfl
  | m + 1, a0, left1, i5 => by
    have hrec : zz1_R5 N m (zz1_E5 kX kO) = (zz1_l5 N (zz1_X5 kX) m) := (funext fun a0 => (funext fun left1 => (funext fun i5 => zz1_iter5 N kX kO m a0 left1 i5)))
    refine (zz1_step5 N m kX kO a0 left1 i5).trans ?_
    rw [hrec]
    rfl
noncomputable abbrev zz1_K5 (N : Nat) : Ex → St → Z3 := (blockK 0 (seqK ((A_zz1).shape 21) (run (A_zz1) N (codeAt Try.f22 [1, 1, 1, 1])) zz1_z))
noncomputable abbrev zz1_k5 (N : Nat) : St → Z3 := fun st' => run (A_zz1) N (codeAt Try.f22 [1, 1, 1, 1]) st' zz1_z
theorem zz1_after5 (N : Nat) (left1 : Int) : zz1_X5 (zz1_k5 N) left1 = zz1_a5 left1 := by kernel_rfl
theorem zz1_in5 (N : Nat) (a0 : Y3) (left1 i5 : Int) : zz1_R5 N N (zz1_K5 N) a0 left1 i5 = zz1_F5 N a0 left1 i5 :=
  have h : zz1_X5 (zz1_k5 N) = (zz1_a5) := (funext fun left1 => zz1_after5 N left1)
  ((iter_ex (fun st => by kernel_rfl) (fun st => by kernel_rfl)).trans (zz1_iter5 N (zz1_k5 N) (fun j st => (zz1_K5 N) (.exit j) st) N a0 left1 i5)).trans (congrArg (fun k => zz1_l5 N k N a0 left1 i5) h)
theorem run0_zz1 (N : Nat) (x : (S_zz1).a.den) : runF (A_zz1) N Try.f22 S_zz1 x = (zz1_s (zz1_R5 N N (zz1_K5 N)) x.1 x.2.1) := by kernel_rfl
theorem run_zz1 (N : Nat) (x : (S_zz1).a.den) : runF (A_zz1) N Try.f22 S_zz1 x = zz1 N x.1 x.2.1 := by
  refine (run0_zz1 N x).trans ?_
  rw [(funext fun a0 => (funext fun left1 => (funext fun i5 => zz1_in5 N a0 left1 i5)))]
  rfl
theorem fn_zz1 : FnOk Try.prog 22 := ⟨_, Try.func22, by kernel_rfl, by kernel_rfl⟩
theorem good_zz1 : Gx.Good Try.prog 22 S_zz1 := good_of_run Try.func22 (of_decide_eq_true (by kernel_rfl)) fun x r h => ⟨A_zz1, big, mkCfg_ok tabOk, mkCfg_sigs (show SigsOk Try.prog [(55, S_zz0)] from ⟨⟨fn_zz0, good_zz0⟩, trivial⟩), (run_zz1 big x).trans h⟩

/-! zz2 -/
def zz2_s (a_0 : Y2) (left_1 : Int) : Z3 :=
  (zz1 big a_0.1 left_1).bind fun rq1 =>
  cond (decide (rq1.1 < (0 : Int)))
  (some ((-1 : Int), (())))
  (some (rq1.1, (())))
def zz2 (a_0 : Y2) (left_1 : Int) : Z3 := zz2_s a_0 left_1
def S_zz2 : Sig := { a := (.pair (.pair (.sl (.sl I)) .unit) (.pair I .unit)), md := [0, 0], mf := [], m := .unit, r := I, rf := .i, f := fun x => zz2 x.1 x.2.1 }
def A_zz2 : Cfg := mkCfg tab [(22, S_zz1)] []
theorem run_zz2 (N : Nat) (x : (S_zz2).a.den) : runF (A_zz2) N Try.f7 S_zz2 x = zz2 x.1 x.2.1 := by kernel_rfl
theorem fn_zz2 : FnOk Try.prog 7 := ⟨_, Try.func7, by kernel_rfl, by kernel_rfl⟩
theorem good_zz2 : Gx.Good Try.prog 7 S_zz2 := good_of_run Try.func7 (of_decide_eq_true (by kernel_rfl)) fun x r h => ⟨A_zz2, big, mkCfg_ok tabOk, mkCfg_sigs (show SigsOk Try.prog [(22, S_zz1)] from ⟨⟨fn_zz1, good_zz1⟩, trivial⟩), (run_zz2 big x).trans h⟩

/-! zz3 -/
def zz3_b3 (rec : Y4 → Y4 → Int → Z2) (k : Y4 → Z2) (a0 out3 : Y4) (i4 : Int) : Z2 :=
  cond (decide (i4 < (a0.length : Int)))
  ((atI a0 i4).bind fun xq3 =>
  (atI out3 i4).bind fun _ =>
  (out3[i4.toNat]?).bind fun xq4 =>
  rec a0 (out3.set i4.toNat xq3) (IntKind.i64.wrap (i4 + (1 : Int))))
  (k out3)
def zz3_a3 (out3 : Y4) : Z2 :=
  some (out3, (()))
def zz3_s (L3 : Y4 → Y4 → Int → Z2) (a_0 : Y4) : Z2 :=
  (mkI (0 : Int) (a_0.length : Int)).bind fun xq1 => (mkI (0 : Int) (a_0.length : Int)).bind fun xq2 => cond (decide ((a_0.length : Int) ≤ (a_0.length : Int)))
  (L3 a_0 xq2 (0 : Int))
  none
def zz3_l3 (N : Nat) (k : Y4 → Z2) : Nat → Y4 → Y4 → Int → Z2
  | 0, _, _, _ => none
  | m + 1, a0, out3, i4 => zz3_b3 (zz3_l3 N k m) k a0 out3 i4
def zz3_F3 (N : Nat) (a0 out3 : Y4) (i4 : Int) : Z2 := zz3_l3 N (zz3_a3) N a0 out3 i4
def zz3 (N : Nat) (a_0 : Y4) : Z2 := zz3_s (zz3_F3 N) a_0
def S_zz3 : Sig := { a := (.pair (.sl I) .unit), md := [0], mf := [], m := .unit, r := (.sl I), rf := (.o .i), f := fun x => zz3 big x.1 }
def A_zz3 : Cfg := mkCfg tab [] [(6, [.as (.sl I) .i, .drop, .drop, .as (.sl I) (.o .i), .as I .i]), (13, [.drop, .drop, .drop, .as (.sl I) (.o .i)])]
noncomputable def zz3_R3 (N n : Nat) (K : Ex → St → Z2) (a0 out3 : Y4) (i4 : Int) : Z2 := iter ((A_zz3).shape 6) (run (A_zz3) N (codeAt Try.f63 [1, 1, 0, 1, 0, 0])) n ([.val (.sl I) .i a0, .u, .u, .val (.sl I) (.o .i) out3, .val I .i i4] ++ List.replicate 17 .u) K
noncomputable abbrev zz3_z : Ex → St → Z2 := finish (A_zz3) S_zz3 Try.f63.results.toList
noncomputable abbrev zz3_X3 (kX : St → Z2) : Y4 → Z2 := fun (out3 : Y4) => kX ([.u, .u, .u, .val (.sl I) (.o .i) out3] ++ List.replicate 18 .u)
noncomputable abbrev zz3_E3 (kX : St → Z2) (kO : Nat → St → Z2) : Ex → St → Z2 := exK zz3_z 0 ((A_zz3).shape 13) kX kO
theorem zz3_step3 (N m : Nat) (kX : St → Z2) (kO : Nat → St → Z2) (a0 out3 : Y4) (i4 : Int) : zz3_R3 N (m + 1) (zz3_E3 kX kO) a0 out3 i4 = zz3_b3 (zz3_R3 N m (zz3_E3 kX kO)) (zz3_X3 kX) a0 out3 i4 := by kernel_rfl
theorem zz3_iter3 (N : Nat) (kX : St → Z2) (kO : Nat → St → Z2) : ∀ (n : Nat) (a0 out3 : Y4) (i4 : Int), zz3_R3 N n (zz3_E3 kX kO) a0 out3 i4 = zz3_l3 N (zz3_X3 kX) n a0 out3 i4
  | 0, _, _, _ => rfl
  | m + 1, a0, out3, i4 => by
    have hrec : zz3_R3 N m (zz3_E3 kX kO) = (zz3_l3 N (zz3_X3 kX) m) := (funext fun a0 => (funext fun out3 => (funext fun i4 => zz3_iter3 N kX kO m a0 out3 i4)))
    refine (zz3_step3 N m kX kO a0 out3 i4).trans ?_
    rw [hrec]
    rfl
noncomputable abbrev zz3_K3 (N : Nat) : Ex → St → Z2 := (blockK 0 (seqK ((A_zz3).shape 13) (run (A_zz3) N (codeAt Try.f63 [1, 1, 1])) zz3_z))
noncomputable abbrev zz3_k3 (N : Nat) : St → Z2 := fun st' => run (A_zz3) N (codeAt Try.f63 [1, 1, 1]) st' zz3_z
theorem zz3_after3 (N : Nat) (out3 : Y4) : zz3_X3 (zz3_k3 N) out3 = zz3_a3 out3 := by kernel_rfl
theorem zz3_in3 (N : Nat) (a0 out3 : Y4) (i4 : Int) : zz3_R3 N N (zz3_K3 N) a0 out3 i4 = zz3_F3 N a0 out3 i4 :=
  have h : zz3_X3 (zz3_k3 N) = (zz3_a3) := (funext fun out3 => zz3_after3 N out3)
  ((iter_ex (fun st => by kernel_rfl) (fun st => by kernel_rfl)).trans (zz3_iter3 N (zz3_k3 N) (fun j st => (zz3_K3 N) (.exit j) st) N a0 out3 i4)).trans (congrArg (fun k => zz3_l3 N k N a0 out3 i4) h)
theorem run0_zz3 (N : Nat) (x : (S_zz3).a.den) : runF (A_zz3) N Try.f63 S_zz3 x = (zz3_s (zz3_R3 N N (zz3_K3 N)) x.1) := by kernel_rfl
theorem run_zz3 (N : Nat) (x : (S_zz3).a.den) : runF (A_zz3) N Try.f63 S_zz3 x = zz3 N x.1 := by
  refine (run0_zz3 N x).trans ?_
  rw [(funext fun a0 => (funext fun out3 => (funext fun i4 => zz3_in3 N a0 out3 i4)))]
  rfl
theorem fn_zz3 : FnOk Try.prog 63 := ⟨_, Try.func63, by kernel_rfl, by kernel_rfl⟩
theorem good_zz3 : Gx.Good Try.prog 63 S_zz3 := good_of_run Try.func63 (of_decide_eq_true (by kernel_rfl)) fun x r h => ⟨A_zz3, big, mkCfg_ok tabOk, mkCfg_sigs (show SigsOk Try.prog [] from trivial), (run_zz3 big x).trans h⟩

/-! zz4 -/
def zz4_b3 (rec : Y3 → Y3 → Int → Option Y2) (k : Y3 → Option Y2) (a0 out3 : Y3) (i4 : Int) : Option Y2 :=
  cond (decide (i4 < (a0.length : Int)))
  ((atI a0 i4).bind fun xq3 =>
  (zz3 big xq3).bind fun rq4 =>
  (atI out3 i4).bind fun _ =>
  (out3[i4.toNat]?).bind fun xq5 =>
  rec a0 (out3.set i4.toNat rq4.1) (IntKind.i64.wrap (i4 + (1 : Int))))
  (k out3)
def zz4_a3 (out3 : Y3) : Option Y2 :=
  some (out3, (()))
def zz4_s (L3 : Y3 → Y3 → Int → Option Y2) (a_0 : Y3) : Option Y2 :=
  (mkI ([] : Y4) (a_0.length : Int)).bind fun xq1 => (mkI ([] : Y4) (a_0.length : Int)).bind fun xq2 => cond (decide ((a_0.length : Int) ≤ (a_0.length : Int)))
  (L3 a_0 xq2 (0 : Int))
  none
def zz4_l3 (N : Nat) (k : Y3 → Option Y2) : Nat → Y3 → Y3 → Int → Option Y2
  | 0, _, _, _ => none
  | m + 1, a0, out3, i4 => zz4_b3 (zz4_l3 N k m) k a0 out3 i4
def zz4_F3 (N : Nat) (a0 out3 : Y3) (i4 : Int) : Option Y2 := zz4_l3 N (zz4_a3) N a0 out3 i4
def zz4 (N : Nat) (a_0 : Y3) : Option Y2 := zz4_s (zz4_F3 N) a_0
def S_zz4 : Sig := { a := (.pair (.sl (.sl I)) .unit), md := [0], mf := [], m := .unit, r := (.sl (.sl I)), rf := (.o (.o .i)), f := fun x => zz4 big x.1 }
def A_zz4 : Cfg := mkCfg tab [(63, S_zz3)] [(6, [.as (.sl (.sl I)) .i, .drop, .drop, .as (.sl (.sl I)) (.o (.o .i)), .as I .i]), (13, [.drop, .drop, .drop, .as (.sl (.sl I)) (.o (.o .i))])]
noncomputable def zz4_R3 (N n : Nat) (K : Ex → St → Option Y2) (a0 out3 : Y3) (i4 : Int) : Option Y2 := iter ((A_zz4).shape 6) (run (A_zz4) N (codeAt Try.f27 [1, 1, 0, 1, 0, 0])) n ([.val (.sl (.sl I)) .i a0, .u, .u, .val (.sl (.sl I)) (.o (.o .i)) out3, .val I .i i4] ++ List.replicate 18 .u) K
noncomputable abbrev zz4_z : Ex → St → Option Y2 := finish (A_zz4) S_zz4 Try.f27.results.toList
noncomputable abbrev zz4_X3 (kX : St → Option Y2) : Y3 → Option Y2 := fun (out3 : Y3) => kX ([.u, .u, .u, .val (.sl (.sl I)) (.o (.o .i)) out3] ++ List.replicate 19 .u)
noncomputable abbrev zz4_E3 (kX : St → Option Y2) (kO : Nat → St → Option Y2) : Ex → St → Option Y2 := exK zz4_z 0 ((A_zz4).shape 13) kX kO
theorem zz4_step3 (N m : Nat) (kX : St → Option Y2) (kO : Nat → St → Option Y2) (a0 out3 : Y3) (i4 : Int) : zz4_R3 N (m + 1) (zz4_E3 kX kO) a0 out3 i4 = zz4_b3 (zz4_R3 N m (zz4_E3 kX kO)) (zz4_X3 kX) a0 out3 i4 := by kernel_rfl
theorem zz4_iter3 (N : Nat) (kX : St → Option Y2) (kO : Nat → St → Option Y2) : ∀ (n : Nat) (a0 out3 : Y3) (i4 : Int), zz4_R3 N n (zz4_E3 kX kO) a0 out3 i4 = zz4_l3 N (zz4_X3 kX) n a0 out3 i4
  | 0, _, _, _ => rfl
  | m + 1, a0, out3, i4 => by
    have hrec : zz4_R3 N m (zz4_E3 kX kO) = (zz4_l3 N (zz4_X3 kX) m) := (funext fun a0 => (funext fun out3 => (funext fun i4 => zz4_iter3 N kX kO m a0 out3 i4)))
    refine (zz4_step3 N m kX kO a0 out3 i4).trans ?_
    rw [hrec]
    rfl
noncomputable abbrev zz4_K3 (N : Nat) : Ex → St → Option Y2 := (blockK 0 (seqK ((A_zz4).shape 13) (run (A_zz4) N (codeAt Try.f27 [1, 1, 1])) zz4_z))
noncomputable abbrev zz4_k3 (N : Nat) : St → Option Y2 := fun st' => run (A_zz4) N (codeAt Try.f27 [1, 1, 1]) st' zz4_z
theorem zz4_after3 (N : Nat) (out3 : Y3) : zz4_X3 (zz4_k3 N) out3 = zz4_a3 out3 := by kernel_rfl
theorem zz4_in3 (N : Nat) (a0 out3 : Y3) (i4 : Int) : zz4_R3 N N (zz4_K3 N) a0 out3 i4 = zz4_F3 N a0 out3 i4 :=
  have h : zz4_X3 (zz4_k3 N) = (zz4_a3) := (funext fun out3 => zz4_after3 N out3)
  ((iter_ex (fun st => by kernel_rfl) (fun st => by kernel_rfl)).trans (zz4_iter3 N (zz4_k3 N) (fun j st => (zz4_K3 N) (.exit j) st) N a0 out3 i4)).trans (congrArg (fun k => zz4_l3 N k N a0 out3 i4) h)
theorem run0_zz4 (N : Nat) (x : (S_zz4).a.den) : runF (A_zz4) N Try.f27 S_zz4 x = (zz4_s (zz4_R3 N N (zz4_K3 N)) x.1) := by kernel_rfl
theorem run_zz4 (N : Nat) (x : (S_zz4).a.den) : runF (A_zz4) N Try.f27 S_zz4 x = zz4 N x.1 := by
  refine (run0_zz4 N x).trans ?_
  rw [(funext fun a0 => (funext fun out3 => (funext fun i4 => zz4_in3 N a0 out3 i4)))]
  rfl
theorem fn_zz4 : FnOk Try.prog 27 := ⟨_, Try.func27, by kernel_rfl, by kernel_rfl⟩
theorem good_zz4 : Gx.Good Try.prog 27 S_zz4 := good_of_run Try.func27 (of_decide_eq_true (by kernel_rfl)) fun x r h => ⟨A_zz4, big, mkCfg_ok tabOk, mkCfg_sigs (show SigsOk Try.prog [(63, S_zz3)] from ⟨⟨fn_zz3, good_zz3⟩, trivial⟩), (run_zz4 big x).trans h⟩

/-! zz5 -/
def zz5_s (a_0 : Y2) : Z9 :=
  (zz4 big a_0.1).bind fun rq1 =>
  some ((rq1.1, (([] : Y3), ()).2), (()))
def zz5 (a_0 : Y2) : Z9 := zz5_s a_0
def S_zz5 : Sig := { a := (.pair (.pair (.sl (.sl I)) .unit) .unit), md := [0], mf := [], m := .unit, r := (.pair (.sl (.sl I)) .unit), rf := (.p (.o (.o .i)) .i), f := fun x => zz5 x.1 }
def A_zz5 : Cfg := mkCfg tab [(27, S_zz4)] []
theorem run_zz5 (N : Nat) (x : (S_zz5).a.den) : runF (A_zz5) N Try.f9 S_zz5 x = zz5 x.1 := by kernel_rfl
theorem fn_zz5 : FnOk Try.prog 9 := ⟨_, Try.func9, by kernel_rfl, by kernel_rfl⟩
theorem good_zz5 : Gx.Good Try.prog 9 S_zz5 := good_of_run Try.func9 (of_decide_eq_true (by kernel_rfl)) fun x r h => ⟨A_zz5, big, mkCfg_ok tabOk, mkCfg_sigs (show SigsOk Try.prog [(27, S_zz4)] from ⟨⟨fn_zz4, good_zz4⟩, trivial⟩), (run_zz5 big x).trans h⟩

/-! zz6 -/
def zz6_s (x_0 a_1 b_2 : Int) : Z0 :=
  cond (decide (a_1 ≤ x_0))
  (some (decide (x_0 ≤ b_2), (())))
  (some (false, (())))
def zz6 (x_0 a_1 b_2 : Int) : Z0 := zz6_s x_0 a_1 b_2
def S_zz6 : Sig := { a := (.pair I (.pair I (.pair I .unit))), md := [0, 0, 0], mf := [], m := .unit, r := .bool, rf := .i, f := fun x => zz6 x.1 x.2.1 x.2.2.1 }
def A_zz6 : Cfg := mkCfg tab [] []
theorem run_zz6 (N : Nat) (x : (S_zz6).a.den) : runF (A_zz6) N Try.f117 S_zz6 x = zz6 x.1 x.2.1 x.2.2.1 := by kernel_rfl
theorem fn_zz6 : FnOk Try.prog 117 := ⟨_, Try.func117, by kernel_rfl, by kernel_rfl⟩
theorem good_zz6 : Gx.Good Try.prog 117 S_zz6 := good_of_run Try.func117 (of_decide_eq_true (by kernel_rfl)) fun x r h => ⟨A_zz6, big, mkCfg_ok tabOk, mkCfg_sigs (show SigsOk Try.prog [] from trivial), (run_zz6 big x).trans h⟩

/-! zz7 -/
def zz7_b2 (rec : Y4 → Int → Int → Int → Z0) (k : Z0) (l0 : Y4) (lo1 hi2 i7 : Int) : Z0 :=
  cond (decide (i7 < (l0.length : Int)))
  ((atI l0 i7).bind fun xq1 =>
  (zz6 xq1 lo1 hi2).bind fun rq2 =>
  cond (!rq2.1)
  (some (false, (())))
  (cond (decide ((0 : Int) < i7))
  ((atI l0 (IntKind.i64.wrap (i7 - (1 : Int)))).bind fun xq3 =>
  (atI l0 i7).bind fun xq4 =>
  cond (decide (xq4 ≤ xq3))
  (some (false, (())))
  (rec l0 lo1 hi2 (IntKind.i64.wrap (i7 + (1 : Int)))))
  (rec l0 lo1 hi2 (IntKind.i64.wrap (i7 + (1 : Int))))))
  (k)
def zz7_a2 : Z0 :=
  some (true, (()))
def zz7_s (L2 : Y4 → Int → Int → Int → Z0) (l_0 : Y4) (lo_1 hi_2 : Int) : Z0 :=
  L2 l_0 lo_1 hi_2 (0 : Int)
def zz7_l2 (N : Nat) (k : Z0) : Nat → Y4 → Int → Int → Int → Z0
  | 0, _, _, _, _ => none
  | m + 1, l0, lo1, hi2, i7 => zz7_b2 (zz7_l2 N k m) k l0 lo1 hi2 i7
def zz7_F2 (N : Nat) (l0 : Y4) (lo1 hi2 i7 : Int) : Z0 := zz7_l2 N (zz7_a2) N l0 lo1 hi2 i7
def zz7 (N : Nat) (l_0 : Y4) (lo_1 hi_2 : Int) : Z0 := zz7_s (zz7_F2 N) l_0 lo_1 hi_2
def S_zz7 : Sig := { a := (.pair (.sl I) (.pair I (.pair I .unit))), md := [0, 0, 0], mf := [], m := .unit, r := .bool, rf := .i, f := fun x => zz7 big x.1 x.2.1 x.2.2.1 }
def A_zz7 : Cfg := mkCfg tab [(117, S_zz6)] [(4, [.as (.sl I) .i, .as I .i, .as I .i, .drop, .drop, .drop, .drop, .as I .i]), (13, [])]
noncomputable def zz7_R2 (N n : Nat) (K : Ex → St → Z0) (l0 : Y4) (lo1 hi2 i7 : Int) : Z0 := iter ((A_zz7).shape 4) (run (A_zz7) N (codeAt Try.f89 [1, 0, 1, 0, 0])) n ([.val (.sl I) .i l0, .val I .i lo1, .val I .i hi2, .u, .u, .u, .u, .val I .i i7] ++ List.replicate 30 .u) K
noncomputable abbrev zz7_z : Ex → St → Z0 := finish (A_zz7) S_zz7 Try.f89.results.toList
noncomputable abbrev zz7_X2 (kX : St → Z0) : Z0 := kX ([] ++ List.replicate 38 .u)
noncomputable abbrev zz7_E2 (kX : St → Z0) (kO : Nat → St → Z0) : Ex → St → Z0 := exK zz7_z 0 ((A_zz7).shape 13) kX kO
theorem zz7_step2 (N m : Nat) (kX : St → Z0) (kO : Nat → St → Z0) (l0 : Y4) (lo1 hi2 i7 : Int) : zz7_R2 N (m + 1) (zz7_E2 kX kO) l0 lo1 hi2 i7 = zz7_b2 (zz7_R2 N m (zz7_E2 kX kO)) (zz7_X2 kX) l0 lo1 hi2 i7 := by kernel_rfl
theorem zz7_iter2 (N : Nat) (kX : St → Z0) (kO : Nat → St → Z0) : ∀ (n : Nat) (l0 : Y4) (lo1 hi2 i7 : Int), zz7_R2 N n (zz7_E2 kX kO) l0 lo1 hi2 i7 = zz7_l2 N (zz7_X2 kX) n l0 lo1 hi2 i7
  | 0, _, _, _, _ => rfl
  | m + 1, l0, lo1, hi2, i7 => by
    have hrec : zz7_R2 N m (zz7_E2 kX kO) = (zz7_l2 N (zz7_X2 kX) m) := (funext fun l0 => (funext fun lo1 => (funext fun hi2 => (funext fun i7 => zz7_iter2 N kX kO m l0 lo1 hi2 i7))))
    refine (zz7_step2 N m kX kO l0 lo1 hi2 i7).trans ?_
    rw [hrec]
    rfl
noncomputable abbrev zz7_K2 (N : Nat) : Ex → St → Z0 := (blockK 0 (seqK ((A_zz7).shape 13) (run (A_zz7) N (codeAt Try.f89 [1, 1])) zz7_z))
noncomputable abbrev zz7_k2 (N : Nat) : St → Z0 := fun st' => run (A_zz7) N (codeAt Try.f89 [1, 1]) st' zz7_z
theorem zz7_after2 (N : Nat) : zz7_X2 (zz7_k2 N) = zz7_a2 := by kernel_rfl
theorem zz7_in2 (N : Nat) (l0 : Y4) (lo1 hi2 i7 : Int) : zz7_R2 N N (zz7_K2 N) l0 lo1 hi2 i7 = zz7_F2 N l0 lo1 hi2 i7 :=
  have h : zz7_X2 (zz7_k2 N) = (zz7_a2) := zz7_after2 N
  ((iter_ex (fun st => by kernel_rfl) (fun st => by kernel_rfl)).trans (zz7_iter2 N (zz7_k2 N) (fun j st => (zz7_K2 N) (.exit j) st) N l0 lo1 hi2 i7)).trans (congrArg (fun k => zz7_l2 N k N l0 lo1 hi2 i7) h)
theorem run0_zz7 (N : Nat) (x : (S_zz7).a.den) : runF (A_zz7) N Try.f89 S_zz7 x = (zz7_s (zz7_R2 N N (zz7_K2 N)) x.1 x.2.1 x.2.2.1) := by kernel_rfl
theorem run_zz7 (N : Nat) (x : (S_zz7).a.den) : runF (A_zz7) N Try.f89 S_zz7 x = zz7 N x.1 x.2.1 x.2.2.1 := by
  refine (run0_zz7 N x).trans ?_
  rw [(funext fun l0 => (funext fun lo1 => (funext fun hi2 => (funext fun i7 => zz7_in2 N l0 lo1 hi2 i7))))]
  rfl
theorem fn_zz7 : FnOk Try.prog 89 := ⟨_, Try.func89, by kernel_rfl, by kernel_rfl⟩
theorem good_zz7 : Gx.Good Try.prog 89 S_zz7 := good_of_run Try.func89 (of_decide_eq_true (by kernel_rfl)) fun x r h => ⟨A_zz7, big, mkCfg_ok tabOk, mkCfg_sigs (show SigsOk Try.prog [(117, S_zz6)] from ⟨⟨fn_zz6, good_zz6⟩, trivial⟩), (run_zz7 big x).trans h⟩

/-! zz8 -/
def zz8_b2 (rec : Y4 → Int → Int → Z0) (k : Z0) (l0 : Y4) (n1 i5 : Int) : Z0 :=
  cond (decide (i5 < (l0.length : Int)))
  ((atI l0 i5).bind fun xq1 =>
  cond (decide (xq1 = n1))
  (some (true, (())))
  (rec l0 n1 (IntKind.i64.wrap (i5 + (1 : Int)))))
  (k)
def zz8_a2 : Z0 :=
  some (false, (()))
def zz8_s (L2 : Y4 → Int → Int → Z0) (l_0 : Y4) (n_1 : Int) : Z0 :=
  L2 l_0 n_1 (0 : Int)
def zz8_l2 (N : Nat) (k : Z0) : Nat → Y4 → Int → Int → Z0
  | 0, _, _, _ => none
  | m + 1, l0, n1, i5 => zz8_b2 (zz8_l2 N k m) k l0 n1 i5
def zz8_F2 (N : Nat) (l0 : Y4) (n1 i5 : Int) : Z0 := zz8_l2 N (zz8_a2) N l0 n1 i5
def zz8 (N : Nat) (l_0 : Y4) (n_1 : Int) : Z0 := zz8_s (zz8_F2 N) l_0 n_1
def S_zz8 : Sig := { a := (.pair (.sl I) (.pair I .unit)), md := [0, 0], mf := [], m := .unit, r := .bool, rf := .i, f := fun x => zz8 big x.1 x.2.1 }
def A_zz8 : Cfg := mkCfg tab [] [(4, [.as (.sl I) .i, .as I .i, .drop, .drop, .drop, .as I .i]), (13, [])]
noncomputable def zz8_R2 (N n : Nat) (K : Ex → St → Z0) (l0 : Y4) (n1 i5 : Int) : Z0 := iter ((A_zz8).shape 4) (run (A_zz8) N (codeAt Try.f74 [1, 0, 1, 0, 0])) n ([.val (.sl I) .i l0, .val I .i n1, .u, .u, .u, .val I .i i5] ++ List.replicate 12 .u) K
noncomputable abbrev zz8_z : Ex → St → Z0 := finish (A_zz8) S_zz8 Try.f74.results.toList
noncomputable abbrev zz8_X2 (kX : St → Z0) : Z0 := kX ([] ++ List.replicate 18 .u)
noncomputable abbrev zz8_E2 (kX : St → Z0) (kO : Nat → St → Z0) : Ex → St → Z0 := exK zz8_z 0 ((A_zz8).shape 13) kX kO
theorem zz8_step2 (N m : Nat) (kX : St → Z0) (kO : Nat → St → Z0) (l0 : Y4) (n1 i5 : Int) : zz8_R2 N (m + 1) (zz8_E2 kX kO) l0 n1 i5 = zz8_b2 (zz8_R2 N m (zz8_E2 kX kO)) (zz8_X2 kX) l0 n1 i5 := by kernel_rfl
theorem zz8_iter2 (N : Nat) (kX : St → Z0) (kO : Nat → St → Z0) : ∀ (n : Nat) (l0 : Y4) (n1 i5 : Int), zz8_R2 N n (zz8_E2 kX kO) l0 n1 i5 = zz8_l2 N (zz8_X2 kX) n l0 n1 i5
  | 0, _, _, _ => rfl
  | m + 1, l0, n1, i5 => by
    have hrec : zz8_R2 N m (zz8_E2 kX kO) = (zz8_l2 N (zz8_X2 kX) m) := (funext fun l0 => (funext fun n1 => (funext fun i5 => zz8_iter2 N kX kO m l0 n1 i5)))
    refine (zz8_step2 N m kX kO l0 n1 i5).trans ?_
    rw [hrec]
    rfl
noncomputable abbrev zz8_K2 (N : Nat) : Ex → St → Z0 := (blockK 0 (seqK ((A_zz8).shape 13) (run (A_zz8) N (codeAt Try.f74 [1, 1])) zz8_z))
noncomputable abbrev zz8_k2 (N : Nat) : St → Z0 := fun st' => run (A_zz8) N (codeAt Try.f74 [1, 1]) st' zz8_z
theorem zz8_after2 (N : Nat) : zz8_X2 (zz8_k2 N) = zz8_a2 := by kernel_rfl
theorem zz8_in2 (N : Nat) (l0 : Y4) (n1 i5 : Int) : zz8_R2 N N (zz8_K2 N) l0 n1 i5 = zz8_F2 N l0 n1 i5 :=
  have h : zz8_X2 (zz8_k2 N) = (zz8_a2) := zz8_after2 N
  ((iter_ex (fun st => by kernel_rfl) (fun st => by kernel_rfl)).trans (zz8_iter2 N (zz8_k2 N) (fun j st => (zz8_K2 N) (.exit j) st) N l0 n1 i5)).trans (congrArg (fun k => zz8_l2 N k N l0 n1 i5) h)
theorem run0_zz8 (N : Nat) (x : (S_zz8).a.den) : runF (A_zz8) N Try.f74 S_zz8 x = (zz8_s (zz8_R2 N N (zz8_K2 N)) x.1 x.2.1) := by kernel_rfl
theorem run_zz8 (N : Nat) (x : (S_zz8).a.den) : runF (A_zz8) N Try.f74 S_zz8 x = zz8 N x.1 x.2.1 := by
  refine (run0_zz8 N x).trans ?_
  rw [(funext fun l0 => (funext fun n1 => (funext fun i5 => zz8_in2 N l0 n1 i5)))]
  rfl
theorem fn_zz8 : FnOk Try.prog 74 := ⟨_, Try.func74, by kernel_rfl, by kernel_rfl⟩
theorem good_zz8 : Gx.Good Try.prog 74 S_zz8 := good_of_run Try.func74 (of_decide_eq_true (by kernel_rfl)) fun x r h => ⟨A_zz8, big, mkCfg_ok tabOk, mkCfg_sigs (show SigsOk Try.prog [] from trivial), (run_zz8 big x).trans h⟩

/-! zz9 -/
def zz9_b2 (rec : Y4 → Y4 → Int → Z0) (k : Z0) (x0 y1 : Y4) (i5 : Int) : Z0 :=
  cond (decide (i5 < (x0.length : Int)))
  ((atI x0 i5).bind fun xq1 =>
  (zz8 big y1 xq1).bind fun rq2 =>
  cond (!rq2.1)
  (some (false, (())))
  (rec x0 y1 (IntKind.i64.wrap (i5 + (1 : Int)))))
  (k)
def zz9_a2 : Z0 :=
  some (true, (()))
def zz9_s (L2 : Y4 → Y4 → Int → Z0) (x_0 y_1 : Y4) : Z0 :=
  L2 x_0 y_1 (0 : Int)
def zz9_l2 (N : Nat) (k : Z0) : Nat → Y4 → Y4 → Int → Z0
  | 0, _, _, _ => none
  | m + 1, x0, y1, i5 => zz9_b2 (zz9_l2 N k m) k x0 y1 i5
def zz9_F2 (N : Nat) (x0 y1 : Y4) (i5 : Int) : Z0 := zz9_l2 N (zz9_a2) N x0 y1 i5
def zz9 (N : Nat) (x_0 y_1 : Y4) : Z0 := zz9_s (zz9_F2 N) x_0 y_1
def S_zz9 : Sig := { a := (.pair (.sl I) (.pair (.sl I) .unit)), md := [0, 0], mf := [], m := .unit, r := .bool, rf := .i, f := fun x => zz9 big x.1 x.2.1 }
def A_zz9 : Cfg := mkCfg tab [(74, S_zz8)] [(4, [.as (.sl I) .i, .as (.sl I) .i, .drop, .drop, .drop, .as I .i]), (13, [])]
noncomputable def zz9_R2 (N n : Nat) (K : Ex → St → Z0) (x0 y1 : Y4) (i5 : Int) : Z0 := iter ((A_zz9).shape 4) (run (A_zz9) N (codeAt Try.f90 [1, 0, 1, 0, 0])) n ([.val (.sl I) .i x0, .val (.sl I) .i y1, .u, .u, .u, .val I .i i5] ++ List.replicate 13 .u) K
noncomputable abbrev zz9_z : Ex → St → Z0 := finish (A_zz9) S_zz9 Try.f90.results.toList
noncomputable abbrev zz9_X2 (kX : St → Z0) : Z0 := kX ([] ++ List.replicate 19 .u)
noncomputable abbrev zz9_E2 (kX : St → Z0) (kO : Nat → St → Z0) : Ex → St → Z0 := exK zz9_z 0 ((A_zz9).shape 13) kX kO
theorem zz9_step2 (N m : Nat) (kX : St → Z0) (kO : Nat → St → Z0) (x0 y1 : Y4) (i5 : Int) : zz9_R2 N (m + 1) (zz9_E2 kX kO) x0 y1 i5 = zz9_b2 (zz9_R2 N m (zz9_E2 kX kO)) (zz9_X2 kX) x0 y1 i5 := by kernel_rfl
theorem zz9_iter2 (N : Nat) (kX : St → Z0) (kO : Nat → St → Z0) : ∀ (n : Nat) (x0 y1 : Y4) (i5 : Int), zz9_R2 N n (zz9_E2 kX kO) x0 y1 i5 = zz9_l2 N (zz9_X2 kX) n x0 y1 i5
  | 0, _, _, _ => rfl
  | m + 1, x0, y1, i5 => by
    have hrec : zz9_R2 N m (zz9_E2 kX kO) = (zz9_l2 N (zz9_X2 kX) m) := (funext fun x0 => (funext fun y1 => (funext fun i5 => zz9_iter2 N kX kO m x0 y1 i5)))
    refine (zz9_step2 N m kX kO x0 y1 i5).trans ?_
    rw [hrec]
    rfl
noncomputable abbrev zz9_K2 (N : Nat) : Ex → St → Z0 := (blockK 0 (seqK ((A_zz9).shape 13) (run (A_zz9) N (codeAt Try.f90 [1, 1])) zz9_z))
noncomputable abbrev zz9_k2 (N : Nat) : St → Z0 := fun st' => run (A_zz9) N (codeAt Try.f90 [1, 1]) st' zz9_z
theorem zz9_after2 (N : Nat) : zz9_X2 (zz9_k2 N) = zz9_a2 := by kernel_rfl
theorem zz9_in2 (N : Nat) (x0 y1 : Y4) (i5 : Int) : zz9_R2 N N (zz9_K2 N) x0 y1 i5 = zz9_F2 N x0 y1 i5 :=
  have h : zz9_X2 (zz9_k2 N) = (zz9_a2) := zz9_after2 N
  ((iter_ex (fun st => by kernel_rfl) (fun st => by kernel_rfl)).trans (zz9_iter2 N (zz9_k2 N) (fun j st => (zz9_K2 N) (.exit j) st) N x0 y1 i5)).trans (congrArg (fun k => zz9_l2 N k N x0 y1 i5) h)
theorem run0_zz9 (N : Nat) (x : (S_zz9).a.den) : runF (A_zz9) N Try.f90 S_zz9 x = (zz9_s (zz9_R2 N N (zz9_K2 N)) x.1 x.2.1) := by kernel_rfl
theorem run_zz9 (N : Nat) (x : (S_zz9).a.den) : runF (A_zz9) N Try.f90 S_zz9 x = zz9 N x.1 x.2.1 := by
  refine (run0_zz9 N x).trans ?_
  rw [(funext fun x0 => (funext fun y1 => (funext fun i5 => zz9_in2 N x0 y1 i5)))]
  rfl
theorem fn_zz9 : FnOk Try.prog 90 := ⟨_, Try.func90, by kernel_rfl, by kernel_rfl⟩
theorem good_zz9 : Gx.Good Try.prog 90 S_zz9 := good_of_run Try.func90 (of_decide_eq_true (by kernel_rfl)) fun x r h => ⟨A_zz9, big, mkCfg_ok tabOk, mkCfg_sigs (show SigsOk Try.prog [(74, S_zz8)] from ⟨⟨fn_zz8, good_zz8⟩, trivial⟩), (run_zz9 big x).trans h⟩

/-! zz10 -/
def zz10_b13 (rec : Y2 → Int → Int → Int → Z0) (k : Y2 → Int → Int → Z0) (p1 : Y2) (n3 x5 i6 : Int) : Z0 :=
  (atI p1.1 x5).bind fun xq5 =>
  cond (decide (i6 < (xq5.length : Int)))
  ((atI p1.1 x5).bind fun xq6 =>
  (atI xq6 i6).bind fun xq7 =>
  cond (decide (xq7 ≠ x5))
  ((atI p1.1 xq7).bind fun xq8 =>
  (zz8 big xq8 x5).bind fun rq9 =>
  cond rq9.1
  (some (false, (())))
  ((atI p1.1 xq7).bind fun xq10 =>
  (atI p1.1 x5).bind fun xq11 =>
  (zz9 big xq10 xq11).bind fun rq12 =>
  cond (!rq12.1)
  (some (false, (())))
  (rec p1 n3 x5 (IntKind.i64.wrap (i6 + (1 : Int))))))
  ((atI p1.1 xq7).bind fun xq13 =>
  (atI p1.1 x5).bind fun xq14 =>
  (zz9 big xq13 xq14).bind fun rq15 =>
  cond (!rq15.1)
  (some (false, (())))
  (rec p1 n3 x5 (IntKind.i64.wrap (i6 + (1 : Int))))))
  (k p1 n3 x5)
def zz10_a13 (rec : Y2 → Int → Int → Z0) (p1 : Y2) (n3 x5 : Int) : Z0 :=
  rec p1 n3 (IntKind.i64.wrap (x5 + (1 : Int)))
def zz10_b10 (L13 : Y2 → Int → Int → Int → Z0) (k : Z0) (p1 : Y2) (n3 x5 : Int) : Z0 :=
  cond (decide (x5 < n3))
  (L13 p1 n3 x5 (0 : Int))
  (k)
def zz10_a10 : Z0 :=
  some (true, (()))
def zz10_b5 (rec : Y2 → Int → Int → Z0) (k : Y2 → Int → Z0) (p1 : Y2) (n3 x4 : Int) : Z0 :=
  cond (decide (x4 < n3))
  ((atI p1.1 x4).bind fun xq1 =>
  (zz7 big xq1 (0 : Int) (IntKind.i64.wrap (n3 - (1 : Int)))).bind fun rq2 =>
  cond (!rq2.1)
  (some (false, (())))
  ((atI p1.1 x4).bind fun xq3 =>
  (zz8 big xq3 x4).bind fun rq4 =>
  cond (!rq4.1)
  (some (false, (())))
  (rec p1 n3 (IntKind.i64.wrap (x4 + (1 : Int))))))
  (k p1 n3)
def zz10_a5 (L10 : Y2 → Int → Int → Z0) (p1 : Y2) (n3 : Int) : Z0 :=
  L10 p1 n3 (0 : Int)
def zz10_s (L5 : Y2 → Int → Int → Z0) (p_0 : Y2) : Z0 :=
  cond (decide ((10 : Int) < (p_0.1.length : Int)))
  (some (false, (())))
  (L5 p_0 (p_0.1.length : Int) (0 : Int))
def zz10_l13 (N : Nat) (k : Y2 → Int → Int → Z0) : Nat → Y2 → Int → Int → Int → Z0
  | 0, _, _, _, _ => none
  | m + 1, p1, n3, x5, i6 => zz10_b13 (zz10_l13 N k m) k p1 n3 x5 i6
def zz10_F13 (N : Nat) (rec : Y2 → Int → Int → Z0) (k : Z0) (p1 : Y2) (n3 x5 i6 : Int) : Z0 := zz10_l13 N (zz10_a13 rec) N p1 n3 x5 i6
def zz10_l5 (N : Nat) (k : Y2 → Int → Z0) : Nat → Y2 → Int → Int → Z0
  | 0, _, _, _ => none
  | m + 1, p1, n3, x4 => zz10_b5 (zz10_l5 N k m) k p1 n3 x4
def zz10_l10 (N : Nat) (k : Z0) : Nat → Y2 → Int → Int → Z0
  | 0, _, _, _ => none
  | m + 1, p1, n3, x5 => zz10_b10 (zz10_F13 N (zz10_l10 N k m) k) k p1 n3 x5
def zz10_F10 (N : Nat) (p1 : Y2) (n3 x5 : Int) : Z0 := zz10_l10 N (zz10_a10) N p1 n3 x5
def zz10_F5 (N : Nat) (p1 : Y2) (n3 x4 : Int) : Z0 := zz10_l5 N (zz10_a5 (zz10_F10 N)) N p1 n3 x4
def zz10 (N : Nat) (p_0 : Y2) : Z0 := zz10_s (zz10_F5 N) p_0
def S_zz10 : Sig := { a := (.pair (.pair (.sl (.sl I)) .unit) .unit), md := [0], mf := [], m := .unit, r := .bool, rf := .i, f := fun x => zz10 big x.1 }
def A_zz10 : Cfg := mkCfg tab [(89, S_zz7), (74, S_zz8), (90, S_zz9)] [(10, [.drop, .as (.ptr (.pair (.sl (.sl I)) .unit)) (.o .i), .drop, .as I .i, .as I .i]), (19, [.drop, .as (.ptr (.pair (.sl (.sl I)) .unit)) (.o .i), .drop, .as I .i]), (20, [.drop, .as (.ptr (.pair (.sl (.sl I)) .unit)) (.o .i), .drop, .as I .i, .drop, .as I .i]), (26, [.drop, .as (.ptr (.pair (.sl (.sl I)) .unit)) (.o .i), .drop, .as I .i, .drop, .as I .i, .as I .i]), (37, []), (23, [.drop, .as (.ptr (.pair (.sl (.sl I)) .unit)) (.o .i), .drop, .as I .i, .drop, .as I .i])]
noncomputable def zz10_R5 (N n : Nat) (K : Ex → St → Z0) (p1 : Y2) (n3 x4 : Int) : Z0 := iter ((A_zz10).shape 10) (run (A_zz10) N (codeAt Try.f56 [1, 1, 1, 0, 1, 0, 0])) n ([.u, .val (.ptr (.pair (.sl (.sl I)) .unit)) (.o .i) p1, .u, .val I .i n3, .val I .i x4] ++ List.replicate 81 .u) K
noncomputable def zz10_R10 (N n : Nat) (K : Ex → St → Z0) (p1 : Y2) (n3 x5 : Int) : Z0 := iter ((A_zz10).shape 20) (run (A_zz10) N (codeAt Try.f56 [1, 1, 1, 1, 0, 1, 0, 0])) n ([.u, .val (.ptr (.pair (.sl (.sl I)) .unit)) (.o .i) p1, .u, .val I .i n3, .u, .val I .i x5] ++ List.replicate 80 .u) K
noncomputable def zz10_R13 (N n : Nat) (K : Ex → St → Z0) (p1 : Y2) (n3 x5 i6 : Int) : Z0 := iter ((A_zz10).shape 26) (run (A_zz10) N (codeAt Try.f56 [1, 1, 1, 1, 0, 1, 0, 0, 1, 0, 0, 1, 0, 0])) n ([.u, .val (.ptr (.pair (.sl (.sl I)) .unit)) (.o .i) p1, .u, .val I .i n3, .u, .val I .i x5, .val I .i i6] ++ List.replicate 79 .u) K
noncomputable abbrev zz10_z : Ex → St → Z0 := finish (A_zz10) S_zz10 Try.f56.results.toList
noncomputable abbrev zz10_X5 (kX : St → Z0) : Y2 → Int → Z0 := fun (p1 : Y2) (n3 : Int) => kX ([.u, .val (.ptr (.pair (.sl (.sl I)) .unit)) (.o .i) p1, .u, .val I .i n3] ++ List.replicate 82 .u)
noncomputable abbrev zz10_E5 (kX : St → Z0) (kO : Nat → St → Z0) : Ex → St → Z0 := exK zz10_z 0 ((A_zz10).shape 19) kX kO
noncomputable abbrev zz10_X10 (kX : St → Z0) : Z0 := kX ([] ++ List.replicate 86 .u)
noncomputable abbrev zz10_E10 (kX : St → Z0) (kO : Nat → St → Z0) : Ex → St → Z0 := exK zz10_z 2 ((A_zz10).shape 37) kX kO
noncomputable abbrev zz10_X13 (kX : St → Z0) : Y2 → Int → Int → Z0 := fun (p1 : Y2) (n3 x5 : Int) => kX ([.u, .val (.ptr (.pair (.sl (.sl I)) .unit)) (.o .i) p1, .u, .val I .i n3, .u, .val I .i x5] ++ List.replicate 80 .u)
noncomputable abbrev zz10_E13 (kX : St → Z0) (kO : Nat → St → Z0) : Ex → St → Z0 := exK zz10_z 4 ((A_zz10).shape 23) kX kO
theorem zz10_step5 (N m : Nat) (kX : St → Z0) (kO : Nat → St → Z0) (p1 : Y2) (n3 x4 : Int) : zz10_R5 N (m + 1) (zz10_E5 kX kO) p1 n3 x4 = zz10_b5 (zz10_R5 N m (zz10_E5 kX kO)) (zz10_X5 kX) p1 n3 x4 := by kernel_rfl
theorem zz10_iter5 (N : Nat) (kX : St → Z0) (kO : Nat → St → Z0) : ∀ (n : Nat) (p1 : Y2) (n3 x4 : Int), zz10_R5 N n (zz10_E5 kX kO) p1 n3 x4 = zz10_l5 N (zz10_X5 kX) n p1 n3 x4
  | 0, _, _, _ => rfl
  | m + 1, p1, n3, x4 => by
    have hrec : zz10_R5 N m (zz10_E5 kX kO) = (zz10_l5 N (zz10_X5 kX) m) := (funext fun p1 => (funext fun n3 => (funext fun x4 => zz10_iter5 N kX kO m p1 n3 x4)))
    refine (zz10_step5 N m kX kO p1 n3 x4).trans ?_
    rw [hrec]
    rfl
noncomputable abbrev zz10_K5 (N : Nat) : Ex → St → Z0 := (blockK 0 (seqK ((A_zz10).shape 19) (run (A_zz10) N (codeAt Try.f56 [1, 1, 1, 1])) zz10_z))
theorem zz10_step13 (N m : Nat) (kX : St → Z0) (kO : Nat → St → Z0) (p1 : Y2) (n3 x5 i6 : Int) : zz10_R13 N (m + 1) (zz10_E13 kX kO) p1 n3 x5 i6 = zz10_b13 (zz10_R13 N m (zz10_E13 kX kO)) (zz10_X13 kX) p1 n3 x5 i6 := by kernel_rfl
theorem zz10_iter13 (N : Nat) (kX : St → Z0) (kO : Nat → St → Z0) : ∀ (n : Nat) (p1 : Y2) (n3 x5 i6 : Int), zz10_R13 N n (zz10_E13 kX kO) p1 n3 x5 i6 = zz10_l13 N (zz10_X13 kX) n p1 n3 x5 i6
  | 0, _, _, _, _ => rfl
  | m + 1, p1, n3, x5, i6 => by
    have hrec : zz10_R13 N m (zz10_E13 kX kO) = (zz10_l13 N (zz10_X13 kX) m) := (funext fun p1 => (funext fun n3 => (funext fun x5 => (funext fun i6 => zz10_iter13 N kX kO m p1 n3 x5 i6))))
    refine (zz10_step13 N m kX kO p1 n3 x5 i6).trans ?_
    rw [hrec]
    rfl
noncomputable abbrev zz10_K13 (N m : Nat) (kX : St → Z0) (kO : Nat → St → Z0) : Ex → St → Z0 := (blockK 4 (blockK 3 (seqK ((A_zz10).shape 23) (run (A_zz10) N (codeAt Try.f56 [1, 1, 1, 1, 0, 1, 0, 0, 1, 1])) (iterK ((A_zz10).shape 20) (run (A_zz10) N (codeAt Try.f56 [1, 1, 1, 1, 0, 1, 0, 0])) m (zz10_E10 kX kO)))))
noncomputable abbrev zz10_k13 (N m : Nat) (kX : St → Z0) (kO : Nat → St → Z0) : St → Z0 := fun st' => run (A_zz10) N (codeAt Try.f56 [1, 1, 1, 1, 0, 1, 0, 0, 1, 1]) st' (iterK ((A_zz10).shape 20) (run (A_zz10) N (codeAt Try.f56 [1, 1, 1, 1, 0, 1, 0, 0])) m (zz10_E10 kX kO))
theorem zz10_after13 (N m : Nat) (kX : St → Z0) (kO : Nat → St → Z0) (p1 : Y2) (n3 x5 : Int) : zz10_X13 (zz10_k13 N m kX kO) p1 n3 x5 = zz10_a13 (zz10_R10 N m (zz10_E10 kX kO)) p1 n3 x5 := by kernel_rfl
theorem zz10_in13 (N m : Nat) (kX : St → Z0) (kO : Nat → St → Z0) (recF : Y2 → Int → Int → Z0) (hrec : zz10_R10 N m (zz10_E10 kX kO) = recF) (p1 : Y2) (n3 x5 i6 : Int) : zz10_R13 N N (zz10_K13 N m kX kO) p1 n3 x5 i6 = zz10_F13 N recF (zz10_X10 kX) p1 n3 x5 i6 :=
  have h : zz10_X13 (zz10_k13 N m kX kO) = (zz10_a13 recF) := (funext fun p1 => (funext fun n3 => (funext fun x5 => (zz10_after13 N m kX kO p1 n3 x5).trans (by rw [hrec]))))
  ((iter_ex (fun st => by kernel_rfl) (fun st => by kernel_rfl)).trans (zz10_iter13 N (zz10_k13 N m kX kO) (fun j st => (zz10_K13 N m kX kO) (.exit j) st) N p1 n3 x5 i6)).trans (congrArg (fun k => zz10_l13 N k N p1 n3 x5 i6) h)
theorem zz10_step10 (N m : Nat) (kX : St → Z0) (kO : Nat → St → Z0) (p1 : Y2) (n3 x5 : Int) : zz10_R10 N (m + 1) (zz10_E10 kX kO) p1 n3 x5 = zz10_b10 (zz10_R13 N N (zz10_K13 N m kX kO)) (zz10_X10 kX) p1 n3 x5 := by kernel_rfl
theorem zz10_iter10 (N : Nat) (kX : St → Z0) (kO : Nat → St → Z0) : ∀ (n : Nat) (p1 : Y2) (n3 x5 : Int), zz10_R10 N n (zz10_E10 kX kO) p1 n3 x5 = zz10_l10 N (zz10_X10 kX) n p1 n3 x5
  | 0, _, _, _ => rfl
  | m + 1, p1, n3, x5 => by
    have hrec : zz10_R10 N m (zz10_E10 kX kO) = (zz10_l10 N (zz10_X10 kX) m) := (funext fun p1 => (funext fun n3 => (funext fun x5 => zz10_iter10 N kX kO m p1 n3 x5)))
    refine (zz10_step10 N m kX kO p1 n3 x5).trans ?_
    rw [(funext fun p1 => (funext fun n3 => (funext fun x5 => (funext fun i6 => zz10_in13 N m kX kO (zz10_l10 N (zz10_X10 kX) m) hrec p1 n3 x5 i6))))]
    rfl
noncomputable abbrev zz10_K10 (N : Nat) : Ex → St → Z0 := (blockK 2 (seqK ((A_zz10).shape 37) (run (A_zz10) N (codeAt Try.f56 [1, 1, 1, 1, 1])) zz10_z))
noncomputable abbrev zz10_k10 (N : Nat) : St → Z0 := fun st' => run (A_zz10) N (codeAt Try.f56 [1, 1, 1, 1, 1]) st' zz10_z
theorem zz10_after10 (N : Nat) : zz10_X10 (zz10_k10 N) = zz10_a10 := by kernel_rfl
theorem zz10_in10 (N : Nat) (p1 : Y2) (n3 x5 : Int) : zz10_R10 N N (zz10_K10 N) p1 n3 x5 = zz10_F10 N p1 n3 x5 :=
  have h : zz10_X10 (zz10_k10 N) = (zz10_a10) := zz10_after10 N
  ((iter_ex (fun st => by kernel_rfl) (fun st => by kernel_rfl)).trans (zz10_iter10 N (zz10_k10 N) (fun j st => (zz10_K10 N) (.exit j) st) N p1 n3 x5)).trans (congrArg (fun k => zz10_l10 N k N p1 n3 x5) h)
noncomputable abbrev zz10_k5 (N : Nat) : St → Z0 := fun st' => run (A_zz10) N (codeAt Try.f56 [1, 1, 1, 1]) st' zz10_z
theorem zz10_after5 (N : Nat) (p1 : Y2) (n3 : Int) : zz10_X5 (zz10_k5 N) p1 n3 = zz10_a5 (zz10_R10 N N (zz10_K10 N)) p1 n3 := by kernel_rfl
theorem zz10_in5 (N : Nat) (p1 : Y2) (n3 x4 : Int) : zz10_R5 N N (zz10_K5 N) p1 n3 x4 = zz10_F5 N p1 n3 x4 :=
  have h : zz10_X5 (zz10_k5 N) = (zz10_a5 (zz10_F10 N)) := (funext fun p1 => (funext fun n3 => (zz10_after5 N p1 n3).trans (by rw [(funext fun p1 => (funext fun n3 => (funext fun x5 => zz10_in10 N p1 n3 x5)))])))
  ((iter_ex (fun st => by kernel_rfl) (fun st => by kernel_rfl)).trans (zz10_iter5 N (zz10_k5 N) (fun j st => (zz10_K5 N) (.exit j) st) N p1 n3 x4)).trans (congrArg (fun k => zz10_l5 N k N p1 n3 x4) h)
theorem run0_zz10 (N : Nat) (x : (S_zz10).a.den) : runF (A_zz10) N Try.f56 S_zz10 x = (zz10_s (zz10_R5 N N (zz10_K5 N)) x.1) := by kernel_rfl
theorem run_zz10 (N : Nat) (x : (S_zz10).a.den) : runF (A_zz10) N Try.f56 S_zz10 x = zz10 N x.1 := by
  refine (run0_zz10 N x).trans ?_
  rw [(funext fun p1 => (funext fun n3 => (funext fun x4 => zz10_in5 N p1 n3 x4)))]
  rfl
theorem fn_zz10 : FnOk Try.prog 56 := ⟨_, Try.func56, by kernel_rfl, by kernel_rfl⟩
theorem good_zz10 : Gx.Good Try.prog 56 S_zz10 := good_of_run Try.func56 (of_decide_eq_true (by kernel_rfl)) fun x r h => ⟨A_zz10, big, mkCfg_ok tabOk, mkCfg_sigs (show SigsOk Try.prog [(89, S_zz7), (74, S_zz8), (90, S_zz9)] from ⟨⟨fn_zz7, good_zz7⟩, ⟨fn_zz8, good_zz8⟩, ⟨fn_zz9, good_zz9⟩, trivial⟩), (run_zz10 big x).trans h⟩

/-! zz11 -/
def zz11_s (p_0 : Y2) (x_1 y_2 : Int) : Z0 :=
  (atI p_0.1 y_2).bind fun xq1 =>
  (zz8 big xq1 x_1).bind fun rq2 =>
  some (rq2.1, (()))
def zz11 (p_0 : Y2) (x_1 y_2 : Int) : Z0 := zz11_s p_0 x_1 y_2
def S_zz11 : Sig := { a := (.pair (.pair (.sl (.sl I)) .unit) (.pair I (.pair I .unit))), md := [0, 0, 0], mf := [], m := .unit, r := .bool, rf := .i, f := fun x => zz11 x.1 x.2.1 x.2.2.1 }
def A_zz11 : Cfg := mkCfg tab [(74, S_zz8)] []
theorem run_zz11 (N : Nat) (x : (S_zz11).a.den) : runF (A_zz11) N Try.f62 S_zz11 x = zz11 x.1 x.2.1 x.2.2.1 := by kernel_rfl
theorem fn_zz11 : FnOk Try.prog 62 := ⟨_, Try.func62, by kernel_rfl, by kernel_rfl⟩
theorem good_zz11 : Gx.Good Try.prog 62 S_zz11 := good_of_run Try.func62 (of_decide_eq_true (by kernel_rfl)) fun x r h => ⟨A_zz11, big, mkCfg_ok tabOk, mkCfg_sigs (show SigsOk Try.prog [(74, S_zz8)] from ⟨⟨fn_zz8, good_zz8⟩, trivial⟩), (run_zz11 big x).trans h⟩

/-! zz12 -/
def zz12_b7 (rec : Y2 → Y2 → Y2 → Int → Y4 → Int → Z9) (k : Y2 → Y2 → Y2 → Int → Y4 → Z9) (p1 t2 out3 : Y2) (x4 : Int) (below5 : Y4) (y6 : Int) : Z9 :=
  cond (decide (y6 < (p1.1.length : Int)))
  ((zz11 p1 x4 y6).bind fun rq1 =>
  cond rq1.1
  ((appI below5 [y6]).bind fun xq2 =>
  rec p1 t2 out3 x4 xq2 (IntKind.i64.wrap (y6 + (1 : Int))))
  (rec p1 t2 out3 x4 below5 (IntKind.i64.wrap (y6 + (1 : Int)))))
  (k p1 t2 out3 x4 below5)
def zz12_a7 (rec : Y2 → Y2 → Y2 → Int → Z9) (p1 t2 out3 : Y2) (x4 : Int) (below5 : Y4) : Z9 :=
  (appI out3.1 [below5]).bind fun xq3 =>
  rec p1 t2 (xq3, ((), out3.2).2) (IntKind.i64.wrap (x4 + (1 : Int)))
def zz12_b3 (L7 : Y2 → Y2 → Y2 → Int → Y4 → Int → Z9) (k : Y2 → Y2 → Z9) (p1 t2 out3 : Y2) (x4 : Int) : Z9 :=
  cond (decide (x4 < (p1.1.length : Int)))
  (L7 p1 t2 out3 x4 [] (0 : Int))
  (k t2 out3)
def zz12_a3 (t2 out3 : Y2) : Z9 :=
  some (out3, (()))
def zz12_s (L3 : Y2 → Y2 → Y2 → Int → Z9) (p_0 : Y2) : Z9 :=
  L3 p_0 (([] : Y3), ()) ([], ()) (0 : Int)
def zz12_l7 (N : Nat) (k : Y2 → Y2 → Y2 → Int → Y4 → Z9) : Nat → Y2 → Y2 → Y2 → Int → Y4 → Int → Z9
  | 0, _, _, _, _, _, _ => none
  | m + 1, p1, t2, out3, x4, below5, y6 => zz12_b7 (zz12_l7 N k m) k p1 t2 out3 x4 below5 y6
def zz12_F7 (N : Nat) (rec : Y2 → Y2 → Y2 → Int → Z9) (k : Y2 → Y2 → Z9) (p1 t2 out3 : Y2) (x4 : Int) (below5 : Y4) (y6 : Int) : Z9 := zz12_l7 N (zz12_a7 rec) N p1 t2 out3 x4 below5 y6
def zz12_l3 (N : Nat) (k : Y2 → Y2 → Z9) : Nat → Y2 → Y2 → Y2 → Int → Z9
  | 0, _, _, _, _ => none
  | m + 1, p1, t2, out3, x4 => zz12_b3 (zz12_F7 N (zz12_l3 N k m) k) k p1 t2 out3 x4
def zz12_F3 (N : Nat) (p1 t2 out3 : Y2) (x4 : Int) : Z9 := zz12_l3 N (zz12_a3) N p1 t2 out3 x4
def zz12 (N : Nat) (p_0 : Y2) : Z9 := zz12_s (zz12_F3 N) p_0
def S_zz12 : Sig := { a := (.pair (.pair (.sl (.sl I)) .unit) .unit), md := [0], mf := [], m := .unit, r := (.pair (.sl (.sl I)) .unit), rf := (.p (.o (.o .i)) .i), f := fun x => zz12 big x.1 }
def A_zz12 : Cfg := mkCfg tab [(62, S_zz11)] [(6, [.drop, .as (.ptr (.pair (.sl (.sl I)) .unit)) (.o .i), .as (.ptr (.pair (.sl (.sl I)) .unit)) (.o (.p (.o (.o .i)) .i)), .as (.ptr (.pair (.sl (.sl I)) .unit)) (.o (.p (.o (.o .i)) .i)), .as I .i]), (14, [.drop, .as (.ptr (.pair (.sl (.sl I)) .unit)) (.o .i), .as (.ptr (.pair (.sl (.sl I)) .unit)) (.o (.p (.o (.o .i)) .i)), .as (.ptr (.pair (.sl (.sl I)) .unit)) (.o (.p (.o (.o .i)) .i)), .as I .i, .as (.sl I) (.o .i), .as I .i]), (25, [.drop, .drop, .as (.ptr (.pair (.sl (.sl I)) .unit)) (.o (.p (.o (.o .i)) .i)), .as (.ptr (.pair (.sl (.sl I)) .unit)) (.o (.p (.o (.o .i)) .i))]), (23, [.drop, .as (.ptr (.pair (.sl (.sl I)) .unit)) (.o .i), .as (.ptr (.pair (.sl (.sl I)) .unit)) (.o (.p (.o (.o .i)) .i)), .as (.ptr (.pair (.sl (.sl I)) .unit)) (.o (.p (.o (.o .i)) .i)), .as I .i, .as (.sl I) (.o .i)])]
noncomputable def zz12_R3 (N n : Nat) (K : Ex → St → Z9) (p1 t2 out3 : Y2) (x4 : Int) : Z9 := iter ((A_zz12).shape 6) (run (A_zz12) N (codeAt Try.f57 [1, 1, 0, 1, 0, 0])) n ([.u, .val (.ptr (.pair (.sl (.sl I)) .unit)) (.o .i) p1, .val (.ptr (.pair (.sl (.sl I)) .unit)) (.o (.p (.o (.o .i)) .i)) t2, .val (.ptr (.pair (.sl (.sl I)) .unit)) (.o (.p (.o (.o .i)) .i)) out3, .val I .i x4] ++ List.replicate 34 .u) K
noncomputable def zz12_R7 (N n : Nat) (K : Ex → St → Z9) (p1 t2 out3 : Y2) (x4 : Int) (below5 : Y4) (y6 : Int) : Z9 := iter ((A_zz12).shape 14) (run (A_zz12) N (codeAt Try.f57 [1, 1, 0, 1, 0, 0, 1, 0, 0, 1, 0, 1, 0, 0])) n ([.u, .val (.ptr (.pair (.sl (.sl I)) .unit)) (.o .i) p1, .val (.ptr (.pair (.sl (.sl I)) .unit)) (.o (.p (.o (.o .i)) .i)) t2, .val (.ptr (.pair (.sl (.sl I)) .unit)) (.o (.p (.o (.o .i)) .i)) out3, .val I .i x4, .val (.sl I) (.o .i) below5, .val I .i y6] ++ List.replicate 32 .u) K
noncomputable abbrev zz12_z : Ex → St → Z9 := finish (A_zz12) S_zz12 Try.f57.results.toList
noncomputable abbrev zz12_X3 (kX : St → Z9) : Y2 → Y2 → Z9 := fun (t2 out3 : Y2) => kX ([.u, .u, .val (.ptr (.pair (.sl (.sl I)) .unit)) (.o (.p (.o (.o .i)) .i)) t2, .val (.ptr (.pair (.sl (.sl I)) .unit)) (.o (.p (.o (.o .i)) .i)) out3] ++ List.replicate 35 .u)
noncomputable abbrev zz12_E3 (kX : St → Z9) (kO : Nat → St → Z9) : Ex → St → Z9 := exK zz12_z 0 ((A_zz12).shape 25) kX kO
noncomputable abbrev zz12_X7 (kX : St → Z9) : Y2 → Y2 → Y2 → Int → Y4 → Z9 := fun (p1 t2 out3 : Y2) (x4 : Int) (below5 : Y4) => kX ([.u, .val (.ptr (.pair (.sl (.sl I)) .unit)) (.o .i) p1, .val (.ptr (.pair (.sl (.sl I)) .unit)) (.o (.p (.o (.o .i)) .i)) t2, .val (.ptr (.pair (.sl (.sl I)) .unit)) (.o (.p (.o (.o .i)) .i)) out3, .val I .i x4, .val (.sl I) (.o .i) below5] ++ List.replicate 33 .u)
noncomputable abbrev zz12_E7 (kX : St → Z9) (kO : Nat → St → Z9) : Ex → St → Z9 := exK zz12_z 2 ((A_zz12).shape 23) kX kO
theorem zz12_step7 (N m : Nat) (kX : St → Z9) (kO : Nat → St → Z9) (p1 t2 out3 : Y2) (x4 : Int) (below5 : Y4) (y6 : Int) : zz12_R7 N (m + 1) (zz12_E7 kX kO) p1 t2 out3 x4 below5 y6 = zz12_b7 (zz12_R7 N m (zz12_E7 kX kO)) (zz12_X7 kX) p1 t2 out3 x4 below5 y6 := by kernel_rfl
theorem zz12_iter7 (N : Nat) (kX : St → Z9) (kO : Nat → St → Z9) : ∀ (n : Nat) (p1 t2 out3 : Y2) (x4 : Int) (below5 : Y4) (y6 : Int), zz12_R7 N n (zz12_E7 kX kO) p1 t2 out3 x4 below5 y6 = zz12_l7 N (zz12_X7 kX) n p1 t2 out3 x4 below5 y6
  | 0, _, _, _, _, _, _ => rfl
  | m + 1, p1, t2, out3, x4, below5, y6 => by
    have hrec : zz12_R7 N m (zz12_E7 kX kO) = (zz12_l7 N (zz12_X7 kX) m) := (funext fun p1 => (funext fun t2 => (funext fun out3 => (funext fun x4 => (funext fun below5 => (funext fun y6 => zz12_iter7 N kX kO m p1 t2 out3 x4 below5 y6))))))
    refine (zz12_step7 N m kX kO p1 t2 out3 x4 below5 y6).trans ?_
    rw [hrec]
    rfl
noncomputable abbrev zz12_K7 (N m : Nat) (kX : St → Z9) (kO : Nat → St → Z9) : Ex → St → Z9 := (blockK 2 (seqK ((A_zz12).shape 23) (run (A_zz12) N (codeAt Try.f57 [1, 1, 0, 1, 0, 0, 1, 0, 0, 1, 1])) (blockK 1 (seqK ((A_zz12).shape 9) (run (A_zz12) N (codeAt Try.f57 [1, 1, 0, 1, 0, 0, 1, 1])) (iterK ((A_zz12).shape 6) (run (A_zz12) N (codeAt Try.f57 [1, 1, 0, 1, 0, 0])) m (zz12_E3 kX kO))))))
noncomputable abbrev zz12_k7 (N m : Nat) (kX : St → Z9) (kO : Nat → St → Z9) : St → Z9 := fun st' => run (A_zz12) N (codeAt Try.f57 [1, 1, 0, 1, 0, 0, 1, 0, 0, 1, 1]) st' (blockK 1 (seqK ((A_zz12).shape 9) (run (A_zz12) N (codeAt Try.f57 [1, 1, 0, 1, 0, 0, 1, 1])) (iterK ((A_zz12).shape 6) (run (A_zz12) N (codeAt Try.f57 [1, 1, 0, 1, 0, 0])) m (zz12_E3 kX kO))))
theorem zz12_after7 (N m : Nat) (kX : St → Z9) (kO : Nat → St → Z9) (p1 t2 out3 : Y2) (x4 : Int) (below5 : Y4) : zz12_X7 (zz12_k7 N m kX kO) p1 t2 out3 x4 below5 = zz12_a7 (zz12_R3 N m (zz12_E3 kX kO)) p1 t2 out3 x4 below5 := by kernel_rfl
theorem zz12_in7 (N m : Nat) (kX : St → Z9) (kO : Nat → St → Z9) (recF : Y2 → Y2 → Y2 → Int → Z9) (hrec : zz12_R3 N m (zz12_E3 kX kO) = recF) (p1 t2 out3 : Y2) (x4 : Int) (below5 : Y4) (y6 : Int) : zz12_R7 N N (zz12_K7 N m kX kO) p1 t2 out3 x4 below5 y6 = zz12_F7 N recF (zz12_X3 kX) p1 t2 out3 x4 below5 y6 :=
  have h : zz12_X7 (zz12_k7 N m kX kO) = (zz12_a7 recF) := (funext fun p1 => (funext fun t2 => (funext fun out3 => (funext fun x4 => (funext fun below5 => (zz12_after7 N m kX kO p1 t2 out3 x4 below5).trans (by rw [hrec]))))))
  ((iter_ex (fun st => by kernel_rfl) (fun st => by kernel_rfl)).trans (zz12_iter7 N (zz12_k7 N m kX kO) (fun j st => (zz12_K7 N m kX kO) (.exit j) st) N p1 t2 out3 x4 below5 y6)).trans (congrArg (fun k => zz12_l7 N k N p1 t2 out3 x4 below5 y6) h)
theorem zz12_step3 (N m : Nat) (kX : St → Z9) (kO : Nat → St → Z9) (p1 t2 out3 : Y2) (x4 : Int) : zz12_R3 N (m + 1) (zz12_E3 kX kO) p1 t2 out3 x4 = zz12_b3 (zz12_R7 N N (zz12_K7 N m kX kO)) (zz12_X3 kX) p1 t2 out3 x4 := by kernel_rfl
theorem zz12_iter3 (N : Nat) (kX : St → Z9) (kO : Nat → St → Z9) : ∀ (n : Nat) (p1 t2 out3 : Y2) (x4 : Int), zz12_R3 N n (zz12_E3 kX kO) p1 t2 out3 x4 = zz12_l3 N (zz12_X3 kX) n p1 t2 out3 x4
  | 0, _, _, _, _ => rfl
  | m + 1, p1, t2, out3, x4 => by
    have hrec : zz12_R3 N m (zz12_E3 kX kO) = (zz12_l3 N (zz12_X3 kX) m) := (funext fun p1 => (funext fun t2 => (funext fun out3 => (funext fun x4 => zz12_iter3 N kX kO m p1 t2 out3 x4))))
    refine (zz12_step3 N m kX kO p1 t2 out3 x4).trans ?_
    rw [(funext fun p1 => (funext fun t2 => (funext fun out3 => (funext fun x4 => (funext fun below5 => (funext fun y6 => zz12_in7 N m kX kO (zz12_l3 N (zz12_X3 kX) m) hrec p1 t2 out3 x4 below5 y6))))))]
    rfl
noncomputable abbrev zz12_K3 (N : Nat) : Ex → St → Z9 := (blockK 0 (seqK ((A_zz12).shape 25) (run (A_zz12) N (codeAt Try.f57 [1, 1, 1])) zz12_z))
noncomputable abbrev zz12_k3 (N : Nat) : St → Z9 := fun st' => run (A_zz12) N (codeAt Try.f57 [1, 1, 1]) st' zz12_z
theorem zz12_after3 (N : Nat) (t2 out3 : Y2) : zz12_X3 (zz12_k3 N) t2 out3 = zz12_a3 t2 out3 := by kernel_rfl
theorem zz12_in3 (N : Nat) (p1 t2 out3 : Y2) (x4 : Int) : zz12_R3 N N (zz12_K3 N) p1 t2 out3 x4 = zz12_F3 N p1 t2 out3 x4 :=
  have h : zz12_X3 (zz12_k3 N) = (zz12_a3) := (funext fun t2 => (funext fun out3 => zz12_after3 N t2 out3))
  ((iter_ex (fun st => by kernel_rfl) (fun st => by kernel_rfl)).trans (zz12_iter3 N (zz12_k3 N) (fun j st => (zz12_K3 N) (.exit j) st) N p1 t2 out3 x4)).trans (congrArg (fun k => zz12_l3 N k N p1 t2 out3 x4) h)
theorem run0_zz12 (N : Nat) (x : (S_zz12).a.den) : runF (A_zz12) N Try.f57 S_zz12 x = (zz12_s (zz12_R3 N N (zz12_K3 N)) x.1) := by kernel_rfl
theorem run_zz12 (N : Nat) (x : (S_zz12).a.den) : runF (A_zz12) N Try.f57 S_zz12 x = zz12 N x.1 := by
  refine (run0_zz12 N x).trans ?_
  rw [(funext fun p1 => (funext fun t2 => (funext fun out3 => (funext fun x4 => zz12_in3 N p1 t2 out3 x4))))]
  rfl
theorem fn_zz12 : FnOk Try.prog 57 := ⟨_, Try.func57, by kernel_rfl, by kernel_rfl⟩
theorem good_zz12 : Gx.Good Try.prog 57 S_zz12 := good_of_run Try.func57 (of_decide_eq_true (by kernel_rfl)) fun x r h => ⟨A_zz12, big, mkCfg_ok tabOk, mkCfg_sigs (show SigsOk Try.prog [(62, S_zz11)] from ⟨⟨fn_zz11, good_zz11⟩, trivial⟩), (run_zz12 big x).trans h⟩

/-! zz13 -/
def zz13_b13 (rec : Y2 → Y4 → Int → Z3) (k : Z3) (p2 : Y2) (low5 : Y4) (i9 : Int) : Z3 :=
  cond (decide (i9 < (low5.length : Int)))
  ((atI low5 i9).bind fun _ =>
  (low5[i9.toNat]?).bind fun xq4 =>
  (atI p2.1 xq4).bind fun xq5 =>
  (zz9 big low5 xq5).bind fun rq6 =>
  cond rq6.1
  ((atI low5 i9).bind fun _ =>
  (low5[i9.toNat]?).bind fun xq7 =>
  some (xq7, (())))
  (rec p2 low5 (IntKind.i64.wrap (i9 + (1 : Int)))))
  (k)
def zz13_a13 : Z3 :=
  some ((-1 : Int), (()))
def zz13_b7 (rec : Y4 → Y2 → Y4 → Int → Bool → Int → Z3) (k : Y4 → Y2 → Y4 → Int → Bool → Z3) (some1 : Y4) (p2 : Y2) (low5 : Y4) (z6 : Int) (all7 : Bool) (i8 : Int) : Z3 :=
  cond (decide (i8 < (some1.length : Int)))
  (cond all7
  ((atI some1 i8).bind fun xq1 =>
  (zz11 p2 z6 xq1).bind fun rq2 =>
  rec some1 p2 low5 z6 rq2.1 (IntKind.i64.wrap (i8 + (1 : Int))))
  (rec some1 p2 low5 z6 false (IntKind.i64.wrap (i8 + (1 : Int)))))
  (k some1 p2 low5 z6 all7)
def zz13_a7 (rec : Y4 → Y2 → Y4 → Int → Z3) (some1 : Y4) (p2 : Y2) (low5 : Y4) (z6 : Int) (all7 : Bool) : Z3 :=
  cond all7
  ((appI low5 [z6]).bind fun xq3 =>
  rec some1 p2 xq3 (IntKind.i64.wrap (z6 + (1 : Int))))
  (rec some1 p2 low5 (IntKind.i64.wrap (z6 + (1 : Int))))
def zz13_b3 (L7 : Y4 → Y2 → Y4 → Int → Bool → Int → Z3) (k : Y2 → Y4 → Z3) (some1 : Y4) (p2 : Y2) (low5 : Y4) (z6 : Int) : Z3 :=
  cond (decide (z6 < (p2.1.length : Int)))
  (L7 some1 p2 low5 z6 true (0 : Int))
  (k p2 low5)
def zz13_a3 (L13 : Y2 → Y4 → Int → Z3) (p2 : Y2) (low5 : Y4) : Z3 :=
  L13 p2 low5 (0 : Int)
def zz13_s (L3 : Y4 → Y2 → Y4 → Int → Z3) (p_0 : Y2) (some_1 : Y4) : Z3 :=
  L3 some_1 p_0 [] (0 : Int)
def zz13_l7 (N : Nat) (k : Y4 → Y2 → Y4 → Int → Bool → Z3) : Nat → Y4 → Y2 → Y4 → Int → Bool → Int → Z3
  | 0, _, _, _, _, _, _ => none
  | m + 1, some1, p2, low5, z6, all7, i8 => zz13_b7 (zz13_l7 N k m) k some1 p2 low5 z6 all7 i8
def zz13_F7 (N : Nat) (rec : Y4 → Y2 → Y4 → Int → Z3) (k : Y2 → Y4 → Z3) (some1 : Y4) (p2 : Y2) (low5 : Y4) (z6 : Int) (all7 : Bool) (i8 : Int) : Z3 := zz13_l7 N (zz13_a7 rec) N some1 p2 low5 z6 all7 i8
def zz13_l3 (N : Nat) (k : Y2 → Y4 → Z3) : Nat → Y4 → Y2 → Y4 → Int → Z3
  | 0, _, _, _, _ => none
  | m + 1, some1, p2, low5, z6 => zz13_b3 (zz13_F7 N (zz13_l3 N k m) k) k some1 p2 low5 z6
def zz13_l13 (N : Nat) (k : Z3) : Nat → Y2 → Y4 → Int → Z3
  | 0, _, _, _ => none
  | m + 1, p2, low5, i9 => zz13_b13 (zz13_l13 N k m) k p2 low5 i9
def zz13_F13 (N : Nat) (p2 : Y2) (low5 : Y4) (i9 : Int) : Z3 := zz13_l13 N (zz13_a13) N p2 low5 i9
def zz13_F3 (N : Nat) (some1 : Y4) (p2 : Y2) (low5 : Y4) (z6 : Int) : Z3 := zz13_l3 N (zz13_a3 (zz13_F13 N)) N some1 p2 low5 z6
def zz13 (N : Nat) (p_0 : Y2) (some_1 : Y4) : Z3 := zz13_s (zz13_F3 N) p_0 some_1
def S_zz13 : Sig := { a := (.pair (.pair (.sl (.sl I)) .unit) (.pair (.sl I) .unit)), md := [0, 0], mf := [], m := .unit, r := I, rf := .i, f := fun x => zz13 big x.1 x.2.1 }
def A_zz13 : Cfg := mkCfg tab [(62, S_zz11), (90, S_zz9)] [(6, [.drop, .as (.sl I) .i, .as (.ptr (.pair (.sl (.sl I)) .unit)) (.o .i), .drop, .drop, .as (.sl I) (.o .i), .as I .i]), (14, [.drop, .as (.sl I) .i, .as (.ptr (.pair (.sl (.sl I)) .unit)) (.o .i), .drop, .drop, .as (.sl I) (.o .i), .as I .i, .as .bool .i, .as I .i]), (25, [.drop, .drop, .as (.ptr (.pair (.sl (.sl I)) .unit)) (.o .i), .drop, .drop, .as (.sl I) (.o .i)]), (26, [.drop, .drop, .as (.ptr (.pair (.sl (.sl I)) .unit)) (.o .i), .drop, .drop, .as (.sl I) (.o .i), .drop, .drop, .drop, .as I .i]), (21, [.drop, .as (.sl I) .i, .as (.ptr (.pair (.sl (.sl I)) .unit)) (.o .i), .drop, .drop, .as (.sl I) (.o .i), .as I .i, .as .bool .i]), (35, [])]
noncomputable def zz13_R3 (N n : Nat) (K : Ex → St → Z3) (some1 : Y4) (p2 : Y2) (low5 : Y4) (z6 : Int) : Z3 := iter ((A_zz13).shape 6) (run (A_zz13) N (codeAt Try.f58 [1, 1, 0, 1, 0, 0])) n ([.u, .val (.sl I) .i some1, .val (.ptr (.pair (.sl (.sl I)) .unit)) (.o .i) p2, .u, .u, .val (.sl I) (.o .i) low5, .val I .i z6] ++ List.replicate 52 .u) K
noncomputable def zz13_R7 (N n : Nat) (K : Ex → St → Z3) (some1 : Y4) (p2 : Y2) (low5 : Y4) (z6 : Int) (all7 : Bool) (i8 : Int) : Z3 := iter ((A_zz13).shape 14) (run (A_zz13) N (codeAt Try.f58 [1, 1, 0, 1, 0, 0, 1, 0, 0, 1, 0, 1, 0, 0])) n ([.u, .val (.sl I) .i some1, .val (.ptr (.pair (.sl (.sl I)) .unit)) (.o .i) p2, .u, .u, .val (.sl I) (.o .i) low5, .val I .i z6, .val .bool .i all7, .val I .i i8] ++ List.replicate 50 .u) K
noncomputable def zz13_R13 (N n : Nat) (K : Ex → St → Z3) (p2 : Y2) (low5 : Y4) (i9 : Int) : Z3 := iter ((A_zz13).shape 26) (run (A_zz13) N (codeAt Try.f58 [1, 1, 1, 0, 1, 0, 0])) n ([.u, .u, .val (.ptr (.pair (.sl (.sl I)) .unit)) (.o .i) p2, .u, .u, .val (.sl I) (.o .i) low5, .u, .u, .u, .val I .i i9] ++ List.replicate 49 .u) K
noncomputable abbrev zz13_z : Ex → St → Z3 := finish (A_zz13) S_zz13 Try.f58.results.toList
noncomputable abbrev zz13_X3 (kX : St → Z3) : Y2 → Y4 → Z3 := fun (p2 : Y2) (low5 : Y4) => kX ([.u, .u, .val (.ptr (.pair (.sl (.sl I)) .unit)) (.o .i) p2, .u, .u, .val (.sl I) (.o .i) low5] ++ List.replicate 53 .u)
noncomputable abbrev zz13_E3 (kX : St → Z3) (kO : Nat → St → Z3) : Ex → St → Z3 := exK zz13_z 0 ((A_zz13).shape 25) kX kO
noncomputable abbrev zz13_X7 (kX : St → Z3) : Y4 → Y2 → Y4 → Int → Bool → Z3 := fun (some1 : Y4) (p2 : Y2) (low5 : Y4) (z6 : Int) (all7 : Bool) => kX ([.u, .val (.sl I) .i some1, .val (.ptr (.pair (.sl (.sl I)) .unit)) (.o .i) p2, .u, .u, .val (.sl I) (.o .i) low5, .val I .i z6, .val .bool .i all7] ++ List.replicate 51 .u)
noncomputable abbrev zz13_E7 (kX : St → Z3) (kO : Nat → St → Z3) : Ex → St → Z3 := exK zz13_z 2 ((A_zz13).shape 21) kX kO
noncomputable abbrev zz13_X13 (kX : St → Z3) : Z3 := kX ([] ++ List.replicate 59 .u)
noncomputable abbrev zz13_E13 (kX : St → Z3) (kO : Nat → St → Z3) : Ex → St → Z3 := exK zz13_z 4 ((A_zz13).shape 35) kX kO
theorem zz13_step7 (N m : Nat) (kX : St → Z3) (kO : Nat → St → Z3) (some1 : Y4) (p2 : Y2) (low5 : Y4) (z6 : Int) (all7 : Bool) (i8 : Int) : zz13_R7 N (m + 1) (zz13_E7 kX kO) some1 p2 low5 z6 all7 i8 = zz13_b7 (zz13_R7 N m (zz13_E7 kX kO)) (zz13_X7 kX) some1 p2 low5 z6 all7 i8 := by kernel_rfl
theorem zz13_iter7 (N : Nat) (kX : St → Z3) (kO : Nat → St → Z3) : ∀ (n : Nat) (some1 : Y4) (p2 : Y2) (low5 : Y4) (z6 : Int) (all7 : Bool) (i8 : Int), zz13_R7 N n (zz13_E7 kX kO) some1 p2 low5 z6 all7 i8 = zz13_l7 N (zz13_X7 kX) n some1 p2 low5 z6 all7 i8
  | 0, _, _, _, _, _, _ => rfl
  | m + 1, some1, p2, low5, z6, all7, i8 => by
    have hrec : zz13_R7 N m (zz13_E7 kX kO) = (zz13_l7 N (zz13_X7 kX) m) := (funext fun some1 => (funext fun p2 => (funext fun low5 => (funext fun z6 => (funext fun all7 => (funext fun i8 => zz13_iter7 N kX kO m some1 p2 low5 z6 all7 i8))))))
    refine (zz13_step7 N m kX kO some1 p2 low5 z6 all7 i8).trans ?_
    rw [hrec]
    rfl
noncomputable abbrev zz13_K7 (N m : Nat) (kX : St → Z3) (kO : Nat → St → Z3) : Ex → St → Z3 := (blockK 2 (seqK ((A_zz13).shape 21) (run (A_zz13) N (codeAt Try.f58 [1, 1, 0, 1, 0, 0, 1, 0, 0, 1, 1])) (blockK 1 (seqK ((A_zz13).shape 9) (run (A_zz13) N (codeAt Try.f58 [1, 1, 0, 1, 0, 0, 1, 1])) (iterK ((A_zz13).shape 6) (run (A_zz13) N (codeAt Try.f58 [1, 1, 0, 1, 0, 0])) m (zz13_E3 kX kO))))))
noncomputable abbrev zz13_k7 (N m : Nat) (kX : St → Z3) (kO : Nat → St → Z3) : St → Z3 := fun st' => run (A_zz13) N (codeAt Try.f58 [1, 1, 0, 1, 0, 0, 1, 0, 0, 1, 1]) st' (blockK 1 (seqK ((A_zz13).shape 9) (run (A_zz13) N (codeAt Try.f58 [1, 1, 0, 1, 0, 0, 1, 1])) (iterK ((A_zz13).shape 6) (run (A_zz13) N (codeAt Try.f58 [1, 1, 0, 1, 0, 0])) m (zz13_E3 kX kO))))
theorem zz13_after7 (N m : Nat) (kX : St → Z3) (kO : Nat → St → Z3) (some1 : Y4) (p2 : Y2) (low5 : Y4) (z6 : Int) (all7 : Bool) : zz13_X7 (zz13_k7 N m kX kO) some1 p2 low5 z6 all7 = zz13_a7 (zz13_R3 N m (zz13_E3 kX kO)) some1 p2 low5 z6 all7 := by kernel_rfl
theorem zz13_in7 (N m : Nat) (kX : St → Z3) (kO : Nat → St → Z3) (recF : Y4 → Y2 → Y4 → Int → Z3) (hrec : zz13_R3 N m (zz13_E3 kX kO) = recF) (some1 : Y4) (p2 : Y2) (low5 : Y4) (z6 : Int) (all7 : Bool) (i8 : Int) : zz13_R7 N N (zz13_K7 N m kX kO) some1 p2 low5 z6 all7 i8 = zz13_F7 N recF (zz13_X3 kX) some1 p2 low5 z6 all7 i8 :=
  have h : zz13_X7 (zz13_k7 N m kX kO) = (zz13_a7 recF) := (funext fun some1 => (funext fun p2 => (funext fun low5 => (funext fun z6 => (funext fun all7 => (zz13_after7 N m kX kO some1 p2 low5 z6 all7).trans (by rw [hrec]))))))
  ((iter_ex (fun st => by kernel_rfl) (fun st => by kernel_rfl)).trans (zz13_iter7 N (zz13_k7 N m kX kO) (fun j st => (zz13_K7 N m kX kO) (.exit j) st) N some1 p2 low5 z6 all7 i8)).trans (congrArg (fun k => zz13_l7 N k N some1 p2 low5 z6 all7 i8) h)
theorem zz13_step3 (N m : Nat) (kX : St → Z3) (kO : Nat → St → Z3) (some1 : Y4) (p2 : Y2) (low5 : Y4) (z6 : Int) : zz13_R3 N (m + 1) (zz13_E3 kX kO) some1 p2 low5 z6 = zz13_b3 (zz13_R7 N N (zz13_K7 N m kX kO)) (zz13_X3 kX) some1 p2 low5 z6 := by kernel_rfl
theorem zz13_iter3 (N : Nat) (kX : St → Z3) (kO : Nat → St → Z3) : ∀ (n : Nat) (some1 : Y4) (p2 : Y2) (low5 : Y4) (z6 : Int), zz13_R3 N n (zz13_E3 kX kO) some1 p2 low5 z6 = zz13_l3 N (zz13_X3 kX) n some1 p2 low5 z6
  | 0, _, _, _, _ => rfl
  | m + 1, some1, p2, low5, z6 => by
    have hrec : zz13_R3 N m (zz13_E3 kX kO) = (zz13_l3 N (zz13_X3 kX) m) := (funext fun some1 => (funext fun p2 => (funext fun low5 => (funext fun z6 => zz13_iter3 N kX kO m some1 p2 low5 z6))))
    refine (zz13_step3 N m kX kO some1 p2 low5 z6).trans ?_
    rw [(funext fun some1 => (funext fun p2 => (funext fun low5 => (funext fun z6 => (funext fun all7 => (funext fun i8 => zz13_in7 N m kX kO (zz13_l3 N (zz13_X3 kX) m) hrec some1 p2 low5 z6 all7 i8))))))]
    rfl
noncomputable abbrev zz13_K3 (N : Nat) : Ex → St → Z3 := (blockK 0 (seqK ((A_zz13).shape 25) (run (A_zz13) N (codeAt Try.f58 [1, 1, 1])) zz13_z))
theorem zz13_step13 (N m : Nat) (kX : St → Z3) (kO : Nat → St → Z3) (p2 : Y2) (low5 : Y4) (i9 : Int) : zz13_R13 N (m + 1) (zz13_E13 kX kO) p2 low5 i9 = zz13_b13 (zz13_R13 N m (zz13_E13 kX kO)) (zz13_X13 kX) p2 low5 i9 := by kernel_rfl
theorem zz13_iter13 (N : Nat) (kX : St → Z3) (kO : Nat → St → Z3) : ∀ (n : Nat) (p2 : Y2) (low5 : Y4) (i9 : Int), zz13_R13 N n (zz13_E13 kX kO) p2 low5 i9 = zz13_l13 N (zz13_X13 kX) n p2 low5 i9
  | 0, _, _, _ => rfl
  | m + 1, p2, low5, i9 => by
    have hrec : zz13_R13 N m (zz13_E13 kX kO) = (zz13_l13 N (zz13_X13 kX) m) := (funext fun p2 => (funext fun low5 => (funext fun i9 => zz13_iter13 N kX kO m p2 low5 i9)))
    refine (zz13_step13 N m kX kO p2 low5 i9).trans ?_
    rw [hrec]
    rfl
noncomputable abbrev zz13_K13 (N : Nat) : Ex → St → Z3 := (blockK 4 (seqK ((A_zz13).shape 35) (run (A_zz13) N (codeAt Try.f58 [1, 1, 1, 1])) zz13_z))
noncomputable abbrev zz13_k13 (N : Nat) : St → Z3 := fun st' => run (A_zz13) N (codeAt Try.f58 [1, 1, 1, 1]) st' zz13_z
theorem zz13_after13 (N : Nat) : zz13_X13 (zz13_k13 N) = zz13_a13 := by kernel_rfl
theorem zz13_in13 (N : Nat) (p2 : Y2) (low5 : Y4) (i9 : Int) : zz13_R13 N N (zz13_K13 N) p2 low5 i9 = zz13_F13 N p2 low5 i9 :=
  have h : zz13_X13 (zz13_k13 N) = (zz13_a13) := zz13_after13 N
  ((iter_ex (fun st => by kernel_rfl) (fun st => by kernel_rfl)).trans (zz13_iter13 N (zz13_k13 N) (fun j st => (zz13_K13 N) (.exit j) st) N p2 low5 i9)).trans (congrArg (fun k => zz13_l13 N k N p2 low5 i9) h)
noncomputable abbrev zz13_k3 (N : Nat) : St → Z3 := fun st' => run (A_zz13) N (codeAt Try.f58 [1, 1, 1]) st' zz13_z
theorem zz13_after3 (N : Nat) (p2 : Y2) (low5 : Y4) : zz13_X3 (zz13_k3 N) p2 low5 = zz13_a3 (zz13_R13 N N (zz13_K13 N)) p2 low5 := by kernel_rfl
theorem zz13_in3 (N : Nat) (some1 : Y4) (p2 : Y2) (low5 : Y4) (z6 : Int) : zz13_R3 N N (zz13_K3 N) some1 p2 low5 z6 = zz13_F3 N some1 p2 low5 z6 :=
  have h : zz13_X3 (zz13_k3 N) = (zz13_a3 (zz13_F13 N)) := (funext fun p2 => (funext fun low5 => (zz13_after3 N p2 low5).trans (by rw [(funext fun p2 => (funext fun low5 => (funext fun i9 => zz13_in13 N p2 low5 i9)))])))
  ((iter_ex (fun st => by kernel_rfl) (fun st => by kernel_rfl)).trans (zz13_iter3 N (zz13_k3 N) (fun j st => (zz13_K3 N) (.exit j) st) N some1 p2 low5 z6)).trans (congrArg (fun k => zz13_l3 N k N some1 p2 low5 z6) h)
theorem run0_zz13 (N : Nat) (x : (S_zz13).a.den) : runF (A_zz13) N Try.f58 S_zz13 x = (zz13_s (zz13_R3 N N (zz13_K3 N)) x.1 x.2.1) := by kernel_rfl
theorem run_zz13 (N : Nat) (x : (S_zz13).a.den) : runF (A_zz13) N Try.f58 S_zz13 x = zz13 N x.1 x.2.1 := by
  refine (run0_zz13 N x).trans ?_
  rw [(funext fun some1 => (funext fun p2 => (funext fun low5 => (funext fun z6 => zz13_in3 N some1 p2 low5 z6))))]
  rfl
theorem fn_zz13 : FnOk Try.prog 58 := ⟨_, Try.func58, by kernel_rfl, by kernel_rfl⟩
theorem good_zz13 : Gx.Good Try.prog 58 S_zz13 := good_of_run Try.func58 (of_decide_eq_true (by kernel_rfl)) fun x r h => ⟨A_zz13, big, mkCfg_ok tabOk, mkCfg_sigs (show SigsOk Try.prog [(62, S_zz11), (90, S_zz9)] from ⟨⟨fn_zz11, good_zz11⟩, ⟨fn_zz9, good_zz9⟩, trivial⟩), (run_zz13 big x).trans h⟩

/-! zz14 -/
def zz14_b8 (rec : Y2 → Y2 → Int → Int → Z0) (k : Y2 → Y2 → Int → Z0) (p1 dual3 : Y2) (x4 y5 : Int) : Z0 :=
  cond (decide (y5 < x4))
  ((zz13 big p1 [x4, y5]).bind fun rq3 =>
  cond (decide (rq3.1 < (0 : Int)))
  (some (false, (())))
  ((zz13 big dual3 [x4, y5]).bind fun rq4 =>
  cond (decide (rq4.1 < (0 : Int)))
  (some (false, (())))
  (rec p1 dual3 x4 (IntKind.i64.wrap (y5 + (1 : Int))))))
  (k p1 dual3 x4)
def zz14_a8 (rec : Y2 → Y2 → Int → Z0) (p1 dual3 : Y2) (x4 : Int) : Z0 :=
  rec p1 dual3 (IntKind.i64.wrap (x4 + (1 : Int)))
def zz14_b5 (L8 : Y2 → Y2 → Int → Int → Z0) (k : Z0) (p1 dual3 : Y2) (x4 : Int) : Z0 :=
  cond (decide (x4 < (p1.1.length : Int)))
  (L8 p1 dual3 x4 (0 : Int))
  (k)
def zz14_a5 : Z0 :=
  some (true, (()))
def zz14_s (L5 : Y2 → Y2 → Int → Z0) (p_0 : Y2) : Z0 :=
  (zz10 big p_0).bind fun rq1 =>
  cond (!rq1.1)
  (some (false, (())))
  (cond (decide ((p_0.1.length : Int) = (0 : Int)))
  (some (false, (())))
  ((zz12 big p_0).bind fun rq2 =>
  L5 p_0 rq2.1 (0 : Int)))
def zz14_l8 (N : Nat) (k : Y2 → Y2 → Int → Z0) : Nat → Y2 → Y2 → Int → Int → Z0
  | 0, _, _, _, _ => none
  | m + 1, p1, dual3, x4, y5 => zz14_b8 (zz14_l8 N k m) k p1 dual3 x4 y5
def zz14_F8 (N : Nat) (rec : Y2 → Y2 → Int → Z0) (k : Z0) (p1 dual3 : Y2) (x4 y5 : Int) : Z0 := zz14_l8 N (zz14_a8 rec) N p1 dual3 x4 y5
def zz14_l5 (N : Nat) (k : Z0) : Nat → Y2 → Y2 → Int → Z0
  | 0, _, _, _ => none
  | m + 1, p1, dual3, x4 => zz14_b5 (zz14_F8 N (zz14_l5 N k m) k) k p1 dual3 x4
def zz14_F5 (N : Nat) (p1 dual3 : Y2) (x4 : Int) : Z0 := zz14_l5 N (zz14_a5) N p1 dual3 x4
def zz14 (N : Nat) (p_0 : Y2) : Z0 := zz14_s (zz14_F5 N) p_0
def S_zz14 : Sig := { a := (.pair (.pair (.sl (.sl I)) .unit) .unit), md := [0], mf := [], m := .unit, r := .bool, rf := .i, f := fun x => zz14 big x.1 }
def A_zz14 : Cfg := mkCfg tab [(56, S_zz10), (57, S_zz12), (58, S_zz13)] [(10, [.drop, .as (.ptr (.pair (.sl (.sl I)) .unit)) (.o .i), .drop, .as (.ptr (.pair (.sl (.sl I)) .unit)) (.o (.p (.o (.o .i)) .i)), .as I .i]), (16, [.drop, .as (.ptr (.pair (.sl (.sl I)) .unit)) (.o .i), .drop, .as (.ptr (.pair (.sl (.sl I)) .unit)) (.o (.p (.o (.o .i)) .i)), .as I .i, .as I .i]), (25, []), (13, [.drop, .as (.ptr (.pair (.sl (.sl I)) .unit)) (.o .i), .drop, .as (.ptr (.pair (.sl (.sl I)) .unit)) (.o (.p (.o (.o .i)) .i)), .as I .i])]
noncomputable def zz14_R5 (N n : Nat) (K : Ex → St → Z0) (p1 dual3 : Y2) (x4 : Int) : Z0 := iter ((A_zz14).shape 10) (run (A_zz14) N (codeAt Try.f23 [1, 1, 1, 0, 1, 0, 0])) n ([.u, .val (.ptr (.pair (.sl (.sl I)) .unit)) (.o .i) p1, .u, .val (.ptr (.pair (.sl (.sl I)) .unit)) (.o (.p (.o (.o .i)) .i)) dual3, .val I .i x4] ++ List.replicate 38 .u) K
noncomputable def zz14_R8 (N n : Nat) (K : Ex → St → Z0) (p1 dual3 : Y2) (x4 y5 : Int) : Z0 := iter ((A_zz14).shape 16) (run (A_zz14) N (codeAt Try.f23 [1, 1, 1, 0, 1, 0, 0, 1, 0, 0, 1, 0, 0])) n ([.u, .val (.ptr (.pair (.sl (.sl I)) .unit)) (.o .i) p1, .u, .val (.ptr (.pair (.sl (.sl I)) .unit)) (.o (.p (.o (.o .i)) .i)) dual3, .val I .i x4, .val I .i y5] ++ List.replicate 37 .u) K
noncomputable abbrev zz14_z : Ex → St → Z0 := finish (A_zz14) S_zz14 Try.f23.results.toList
noncomputable abbrev zz14_X5 (kX : St → Z0) : Z0 := kX ([] ++ List.replicate 43 .u)
noncomputable abbrev zz14_E5 (kX : St → Z0) (kO : Nat → St → Z0) : Ex → St → Z0 := exK zz14_z 0 ((A_zz14).shape 25) kX kO
noncomputable abbrev zz14_X8 (kX : St → Z0) : Y2 → Y2 → Int → Z0 := fun (p1 dual3 : Y2) (x4 : Int) => kX ([.u, .val (.ptr (.pair (.sl (.sl I)) .unit)) (.o .i) p1, .u, .val (.ptr (.pair (.sl (.sl I)) .unit)) (.o (.p (.o (.o .i)) .i)) dual3, .val I .i x4] ++ List.replicate 38 .u)
noncomputable abbrev zz14_E8 (kX : St → Z0) (kO : Nat → St → Z0) : Ex → St → Z0 := exK zz14_z 2 ((A_zz14).shape 13) kX kO
theorem zz14_step8 (N m : Nat) (kX : St → Z0) (kO : Nat → St → Z0) (p1 dual3 : Y2) (x4 y5 : Int) : zz14_R8 N (m + 1) (zz14_E8 kX kO) p1 dual3 x4 y5 = zz14_b8 (zz14_R8 N m (zz14_E8 kX kO)) (zz14_X8 kX) p1 dual3 x4 y5 := by kernel_rfl
theorem zz14_iter8 (N : Nat) (kX : St → Z0) (kO : Nat → St → Z0) : ∀ (n : Nat) (p1 dual3 : Y2) (x4 y5 : Int), zz14_R8 N n (zz14_E8 kX kO) p1 dual3 x4 y5 = zz14_l8 N (zz14_X8 kX) n p1 dual3 x4 y5
  | 0, _, _, _, _ => rfl
  | m + 1, p1, dual3, x4, y5 => by
    have hrec : zz14_R8 N m (zz14_E8 kX kO) = (zz14_l8 N (zz14_X8 kX) m) := (funext fun p1 => (funext fun dual3 => (funext fun x4 => (funext fun y5 => zz14_iter8 N kX kO m p1 dual3 x4 y5))))
    refine (zz14_step8 N m kX kO p1 dual3 x4 y5).trans ?_
    rw [hrec]
    rfl
noncomputable abbrev zz14_K8 (N m : Nat) (kX : St → Z0) (kO : Nat → St → Z0) : Ex → St → Z0 := (blockK 2 (blockK 1 (seqK ((A_zz14).shape 13) (run (A_zz14) N (codeAt Try.f23 [1, 1, 1, 0, 1, 0, 0, 1, 1])) (iterK ((A_zz14).shape 10) (run (A_zz14) N (codeAt Try.f23 [1, 1, 1, 0, 1, 0, 0])) m (zz14_E5 kX kO)))))
noncomputable abbrev zz14_k8 (N m : Nat) (kX : St → Z0) (kO : Nat → St → Z0) : St → Z0 := fun st' => run (A_zz14) N (codeAt Try.f23 [1, 1, 1, 0, 1, 0, 0, 1, 1]) st' (iterK ((A_zz14).shape 10) (run (A_zz14) N (codeAt Try.f23 [1, 1, 1, 0, 1, 0, 0])) m (zz14_E5 kX kO))
theorem zz14_after8 (N m : Nat) (kX : St → Z0) (kO : Nat → St → Z0) (p1 dual3 : Y2) (x4 : Int) : zz14_X8 (zz14_k8 N m kX kO) p1 dual3 x4 = zz14_a8 (zz14_R5 N m (zz14_E5 kX kO)) p1 dual3 x4 := by kernel_rfl
theorem zz14_in8 (N m : Nat) (kX : St → Z0) (kO : Nat → St → Z0) (recF : Y2 → Y2 → Int → Z0) (hrec : zz14_R5 N m (zz14_E5 kX kO) = recF) (p1 dual3 : Y2) (x4 y5 : Int) : zz14_R8 N N (zz14_K8 N m kX kO) p1 dual3 x4 y5 = zz14_F8 N recF (zz14_X5 kX) p1 dual3 x4 y5 :=
  have h : zz14_X8 (zz14_k8 N m kX kO) = (zz14_a8 recF) := (funext fun p1 => (funext fun dual3 => (funext fun x4 => (zz14_after8 N m kX kO p1 dual3 x4).trans (by rw [hrec]))))
  ((iter_ex (fun st => by kernel_rfl) (fun st => by kernel_rfl)).trans (zz14_iter8 N (zz14_k8 N m kX kO) (fun j st => (zz14_K8 N m kX kO) (.exit j) st) N p1 dual3 x4 y5)).trans (congrArg (fun k => zz14_l8 N k N p1 dual3 x4 y5) h)
theorem zz14_step5 (N m : Nat) (kX : St → Z0) (kO : Nat → St → Z0) (p1 dual3 : Y2) (x4 : Int) : zz14_R5 N (m + 1) (zz14_E5 kX kO) p1 dual3 x4 = zz14_b5 (zz14_R8 N N (zz14_K8 N m kX kO)) (zz14_X5 kX) p1 dual3 x4 := by kernel_rfl
theorem zz14_iter5 (N : Nat) (kX : St → Z0) (kO : Nat → St → Z0) : ∀ (n : Nat) (p1 dual3 : Y2) (x4 : Int), zz14_R5 N n (zz14_E5 kX kO) p1 dual3 x4 = zz14_l5 N (zz14_X5 kX) n p1 dual3 x4
  | 0, _, _, _ => rfl
  | m + 1, p1, dual3, x4 => by
    have hrec : zz14_R5 N m (zz14_E5 kX kO) = (zz14_l5 N (zz14_X5 kX) m) := (funext fun p1 => (funext fun dual3 => (funext fun x4 => zz14_iter5 N kX kO m p1 dual3 x4)))
    refine (zz14_step5 N m kX kO p1 dual3 x4).trans ?_
    rw [(funext fun p1 => (funext fun dual3 => (funext fun x4 => (funext fun y5 => zz14_in8 N m kX kO (zz14_l5 N (zz14_X5 kX) m) hrec p1 dual3 x4 y5))))]
    rfl
noncomputable abbrev zz14_K5 (N : Nat) : Ex → St → Z0 := (blockK 0 (seqK ((A_zz14).shape 25) (run (A_zz14) N (codeAt Try.f23 [1, 1, 1, 1])) zz14_z))
noncomputable abbrev zz14_k5 (N : Nat) : St → Z0 := fun st' => run (A_zz14) N (codeAt Try.f23 [1, 1, 1, 1]) st' zz14_z
theorem zz14_after5 (N : Nat) : zz14_X5 (zz14_k5 N) = zz14_a5 := by kernel_rfl
theorem zz14_in5 (N : Nat) (p1 dual3 : Y2) (x4 : Int) : zz14_R5 N N (zz14_K5 N) p1 dual3 x4 = zz14_F5 N p1 dual3 x4 :=
  have h : zz14_X5 (zz14_k5 N) = (zz14_a5) := zz14_after5 N
  ((iter_ex (fun st => by kernel_rfl) (fun st => by kernel_rfl)).trans (zz14_iter5 N (zz14_k5 N) (fun j st => (zz14_K5 N) (.exit j) st) N p1 dual3 x4)).trans (congrArg (fun k => zz14_l5 N k N p1 dual3 x4) h)
theorem run0_zz14 (N : Nat) (x : (S_zz14).a.den) : runF (A_zz14) N Try.f23 S_zz14 x = (zz14_s (zz14_R5 N N (zz14_K5 N)) x.1) := by kernel_rfl
theorem run_zz14 (N : Nat) (x : (S_zz14).a.den) : runF (A_zz14) N Try.f23 S_zz14 x = zz14 N x.1 := by
  refine (run0_zz14 N x).trans ?_
  rw [(funext fun p1 => (funext fun dual3 => (funext fun x4 => zz14_in5 N p1 dual3 x4)))]
  rfl
theorem fn_zz14 : FnOk Try.prog 23 := ⟨_, Try.func23, by kernel_rfl, by kernel_rfl⟩
theorem good_zz14 : Gx.Good Try.prog 23 S_zz14 := good_of_run Try.func23 (of_decide_eq_true (by kernel_rfl)) fun x r h => ⟨A_zz14, big, mkCfg_ok tabOk, mkCfg_sigs (show SigsOk Try.prog [(56, S_zz10), (57, S_zz12), (58, S_zz13)] from ⟨⟨fn_zz10, good_zz10⟩, ⟨fn_zz12, good_zz12⟩, ⟨fn_zz13, good_zz13⟩, trivial⟩), (run_zz14 big x).trans h⟩

/-! zz15 -/
def zz15_s (p_0 : Y2) : Z0 :=
  cond (decide ((p_0.1.length : Int) ≤ (8 : Int)))
  ((zz14 big p_0).bind fun rq1 =>
  some (rq1.1, (())))
  (some (false, (())))
def zz15 (p_0 : Y2) : Z0 := zz15_s p_0
def S_zz15 : Sig := { a := (.pair (.pair (.sl (.sl I)) .unit) .unit), md := [0], mf := [], m := .unit, r := .bool, rf := .i, f := fun x => zz15 x.1 }
def A_zz15 : Cfg := mkCfg tab [(23, S_zz14)] []
theorem run_zz15 (N : Nat) (x : (S_zz15).a.den) : runF (A_zz15) N Try.f48 S_zz15 x = zz15 x.1 := by kernel_rfl
theorem fn_zz15 : FnOk Try.prog 48 := ⟨_, Try.func48, by kernel_rfl, by kernel_rfl⟩
theorem good_zz15 : Gx.Good Try.prog 48 S_zz15 := good_of_run Try.func48 (of_decide_eq_true (by kernel_rfl)) fun x r h => ⟨A_zz15, big, mkCfg_ok tabOk, mkCfg_sigs (show SigsOk Try.prog [(23, S_zz14)] from ⟨⟨fn_zz14, good_zz14⟩, trivial⟩), (run_zz15 big x).trans h⟩

/-! zz16 -/
def zz16_b8 (rec : Y2 → Y7 → Int → Y2 → Y6 → Y6 → Int → Int → Z8) (k : Y2 → Y7 → Int → Y2 → Y6 → Y6 → Int → Z8) (p1 : Y2) (t2 : Y7) (n3 : Int) (dual4 : Y2) (meet5 join6 : Y6) (x7 y8 : Int) : Z8 :=
  cond (decide (y8 < n3))
  ((zz13 big p1 [x7, y8]).bind fun rq2 =>
  (appI meet5.2.1 [rq2.1]).bind fun xq3 =>
  (zz13 big dual4 [x7, y8]).bind fun rq4 =>
  (appI join6.2.1 [rq4.1]).bind fun xq5 =>
  rec p1 t2 n3 dual4 ((meet5.1, ((), meet5.2.2)).1, (xq3, ((meet5.1, ((), meet5.2.2)).2).2)) ((join6.1, ((), join6.2.2)).1, (xq5, ((join6.1, ((), join6.2.2)).2).2)) x7 (IntKind.i64.wrap (y8 + (1 : Int))))
  (k p1 t2 n3 dual4 meet5 join6 x7)
def zz16_a8 (rec : Y2 → Y7 → Int → Y2 → Y6 → Y6 → Int → Z8) (p1 : Y2) (t2 : Y7) (n3 : Int) (dual4 : Y2) (meet5 join6 : Y6) (x7 : Int) : Z8 :=
  rec p1 t2 n3 dual4 meet5 join6 (IntKind.i64.wrap (x7 + (1 : Int)))
def zz16_b5 (L8 : Y2 → Y7 → Int → Y2 → Y6 → Y6 → Int → Int → Z8) (k : Y7 → Int → Y6 → Y6 → Z8) (p1 : Y2) (t2 : Y7) (n3 : Int) (dual4 : Y2) (meet5 join6 : Y6) (x7 : Int) : Z8 :=
  cond (decide (x7 < n3))
  (L8 p1 t2 n3 dual4 meet5 join6 x7 (0 : Int))
  (k t2 n3 meet5 join6)
def zz16_a5 (t2 : Y7) (n3 : Int) (meet5 join6 : Y6) : Z8 :=
  some ((n3, ([meet5, join6], ())), (()))
def zz16_s (L5 : Y2 → Y7 → Int → Y2 → Y6 → Y6 → Int → Z8) (p_0 : Y2) : Z8 :=
  (zz12 big p_0).bind fun rq1 =>
  L5 p_0 ((0 : Int), (([] : Z13), ())) (p_0.1.length : Int) rq1.1 ((2 : Int), (([] : Y4), ())) ((2 : Int), (([] : Y4), ())) (0 : Int)
def zz16_l8 (N : Nat) (k : Y2 → Y7 → Int → Y2 → Y6 → Y6 → Int → Z8) : Nat → Y2 → Y7 → Int → Y2 → Y6 → Y6 → Int → Int → Z8
  | 0, _, _, _, _, _, _, _, _ => none
  | m + 1, p1, t2, n3, dual4, meet5, join6, x7, y8 => zz16_b8 (zz16_l8 N k m) k p1 t2 n3 dual4 meet5 join6 x7 y8
def zz16_F8 (N : Nat) (rec : Y2 → Y7 → Int → Y2 → Y6 → Y6 → Int → Z8) (k : Y7 → Int → Y6 → Y6 → Z8) (p1 : Y2) (t2 : Y7) (n3 : Int) (dual4 : Y2) (meet5 join6 : Y6) (x7 y8 : Int) : Z8 := zz16_l8 N (zz16_a8 rec) N p1 t2 n3 dual4 meet5 join6 x7 y8
def zz16_l5 (N : Nat) (k : Y7 → Int → Y6 → Y6 → Z8) : Nat → Y2 → Y7 → Int → Y2 → Y6 → Y6 → Int → Z8
  | 0, _, _, _, _, _, _, _ => none
  | m + 1, p1, t2, n3, dual4, meet5, join6, x7 => zz16_b5 (zz16_F8 N (zz16_l5 N k m) k) k p1 t2 n3 dual4 meet5 join6 x7
def zz16_F5 (N : Nat) (p1 : Y2) (t2 : Y7) (n3 : Int) (dual4 : Y2) (meet5 join6 : Y6) (x7 : Int) : Z8 := zz16_l5 N (zz16_a5) N p1 t2 n3 dual4 meet5 join6 x7
def zz16 (N : Nat) (p_0 : Y2) : Z8 := zz16_s (zz16_F5 N) p_0
def S_zz16 : Sig := { a := (.pair (.pair (.sl (.sl I)) .unit) .unit), md := [0], mf := [], m := .unit, r := (.pair I (.pair (.sl (.pair I (.pair (.sl I) .unit))) .unit)), rf := .i, f := fun x => zz16 big x.1 }
def A_zz16 : Cfg := mkCfg tab [(57, S_zz12), (58, S_zz13)] [(10, [.drop, .as (.ptr (.pair (.sl (.sl I)) .unit)) (.o .i), .as (.ptr (.pair I (.pair (.sl (.pair I (.pair (.sl I) .unit))) .unit))) (.o (.p .i (.p (.o (.p .i (.p (.o .i) .i))) .i))), .as I .i, .as (.ptr (.pair (.sl (.sl I)) .unit)) (.o (.p (.o (.o .i)) .i)), .as (.ptr (.pair I (.pair (.sl I) .unit))) (.o (.p .i (.p (.o .i) .i))), .as (.ptr (.pair I (.pair (.sl I) .unit))) (.o (.p .i (.p (.o .i) .i))), .as I .i]), (16, [.drop, .as (.ptr (.pair (.sl (.sl I)) .unit)) (.o .i), .as (.ptr (.pair I (.pair (.sl (.pair I (.pair (.sl I) .unit))) .unit))) (.o (.p .i (.p (.o (.p .i (.p (.o .i) .i))) .i))), .as I .i, .as (.ptr (.pair (.sl (.sl I)) .unit)) (.o (.p (.o (.o .i)) .i)), .as (.ptr (.pair I (.pair (.sl I) .unit))) (.o (.p .i (.p (.o .i) .i))), .as (.ptr (.pair I (.pair (.sl I) .unit))) (.o (.p .i (.p (.o .i) .i))), .as I .i, .as I .i]), (25, [.drop, .drop, .as (.ptr (.pair I (.pair (.sl (.pair I (.pair (.sl I) .unit))) .unit))) (.o (.p .i (.p (.o (.p .i (.p (.o .i) .i))) .i))), .as I .i, .drop, .as (.ptr (.pair I (.pair (.sl I) .unit))) (.o (.p .i (.p (.o .i) .i))), .as (.ptr (.pair I (.pair (.sl I) .unit))) (.o (.p .i (.p (.o .i) .i)))]), (13, [.drop, .as (.ptr (.pair (.sl (.sl I)) .unit)) (.o .i), .as (.ptr (.pair I (.pair (.sl (.pair I (.pair (.sl I) .unit))) .unit))) (.o (.p .i (.p (.o (.p .i (.p (.o .i) .i))) .i))), .as I .i, .as (.ptr (.pair (.sl (.sl I)) .unit)) (.o (.p (.o (.o .i)) .i)), .as (.ptr (.pair I (.pair (.sl I) .unit))) (.o (.p .i (.p (.o .i) .i))), .as (.ptr (.pair I (.pair (.sl I) .unit))) (.o (.p .i (.p (.o .i) .i))), .as I .i])]
noncomputable def zz16_R5 (N n : Nat) (K : Ex → St → Z8) (p1 : Y2) (t2 : Y7) (n3 : Int) (dual4 : Y2) (meet5 join6 : Y6) (x7 : Int) : Z8 := iter ((A_zz16).shape 10) (run (A_zz16) N (codeAt Try.f50 [1, 1, 1, 1, 0, 1, 0, 0])) n ([.u, .val (.ptr (.pair (.sl (.sl I)) .unit)) (.o .i) p1, .val (.ptr (.pair I (.pair (.sl (.pair I (.pair (.sl I) .unit))) .unit))) (.o (.p .i (.p (.o (.p .i (.p (.o .i) .i))) .i))) t2, .val I .i n3, .val (.ptr (.pair (.sl (.sl I)) .unit)) (.o (.p (.o (.o .i)) .i)) dual4, .val (.ptr (.pair I (.pair (.sl I) .unit))) (.o (.p .i (.p (.o .i) .i))) meet5, .val (.ptr (.pair I (.pair (.sl I) .unit))) (.o (.p .i (.p (.o .i) .i))) join6, .val I .i x7] ++ List.replicate 43 .u) K
noncomputable def zz16_R8 (N n : Nat) (K : Ex → St → Z8) (p1 : Y2) (t2 : Y7) (n3 : Int) (dual4 : Y2) (meet5 join6 : Y6) (x7 y8 : Int) : Z8 := iter ((A_zz16).shape 16) (run (A_zz16) N (codeAt Try.f50 [1, 1, 1, 1, 0, 1, 0, 0, 1, 0, 0, 1, 0, 0])) n ([.u, .val (.ptr (.pair (.sl (.sl I)) .unit)) (.o .i) p1, .val (.ptr (.pair I (.pair (.sl (.pair I (.pair (.sl I) .unit))) .unit))) (.o (.p .i (.p (.o (.p .i (.p (.o .i) .i))) .i))) t2, .val I .i n3, .val (.ptr (.pair (.sl (.sl I)) .unit)) (.o (.p (.o (.o .i)) .i)) dual4, .val (.ptr (.pair I (.pair (.sl I) .unit))) (.o (.p .i (.p (.o .i) .i))) meet5, .val (.ptr (.pair I (.pair (.sl I) .unit))) (.o (.p .i (.p (.o .i) .i))) join6, .val I .i x7, .val I .i y8] ++ List.replicate 42 .u) K
noncomputable abbrev zz16_z : Ex → St → Z8 := finish (A_zz16) S_zz16 Try.f50.results.toList
noncomputable abbrev zz16_X5 (kX : St → Z8) : Y7 → Int → Y6 → Y6 → Z8 := fun (t2 : Y7) (n3 : Int) (meet5 join6 : Y6) => kX ([.u, .u, .val (.ptr (.pair I (.pair (.sl (.pair I (.pair (.sl I) .unit))) .unit))) (.o (.p .i (.p (.o (.p .i (.p (.o .i) .i))) .i))) t2, .val I .i n3, .u, .val (.ptr (.pair I (.pair (.sl I) .unit))) (.o (.p .i (.p (.o .i) .i))) meet5, .val (.ptr (.pair I (.pair (.sl I) .unit))) (.o (.p .i (.p (.o .i) .i))) join6] ++ List.replicate 44 .u)
noncomputable abbrev zz16_E5 (kX : St → Z8) (kO : Nat → St → Z8) : Ex → St → Z8 := exK zz16_z 0 ((A_zz16).shape 25) kX kO
noncomputable abbrev zz16_X8 (kX : St → Z8) : Y2 → Y7 → Int → Y2 → Y6 → Y6 → Int → Z8 := fun (p1 : Y2) (t2 : Y7) (n3 : Int) (dual4 : Y2) (meet5 join6 : Y6) (x7 : Int) => kX ([.u, .val (.ptr (.pair (.sl (.sl I)) .unit)) (.o .i) p1, .val (.ptr (.pair I (.pair (.sl (.pair I (.pair (.sl I) .unit))) .unit))) (.o (.p .i (.p (.o (.p .i (.p (.o .i) .i))) .i))) t2, .val I .i n3, .val (.ptr (.pair (.sl (.sl I)) .unit)) (.o (.p (.o (.o .i)) .i)) dual4, .val (.ptr (.pair I (.pair (.sl I) .unit))) (.o (.p .i (.p (.o .i) .i))) meet5, .val (.ptr (.pair I (.pair (.sl I) .unit))) (.o (.p .i (.p (.o .i) .i))) join6, .val I .i x7] ++ List.replicate 43 .u)
noncomputable abbrev zz16_E8 (kX : St → Z8) (kO : Nat → St → Z8) : Ex → St → Z8 := exK zz16_z 2 ((A_zz16).shape 13) kX kO
theorem zz16_step8 (N m : Nat) (kX : St → Z8) (kO : Nat → St → Z8) (p1 : Y2) (t2 : Y7) (n3 : Int) (dual4 : Y2) (meet5 join6 : Y6) (x7 y8 : Int) : zz16_R8 N (m + 1) (zz16_E8 kX kO) p1 t2 n3 dual4 meet5 join6 x7 y8 = zz16_b8 (zz16_R8 N m (zz16_E8 kX kO)) (zz16_X8 kX) p1 t2 n3 dual4 meet5 join6 x7 y8 := by kernel_rfl
theorem zz16_iter8 (N : Nat) (kX : St → Z8) (kO : Nat → St → Z8) : ∀ (n : Nat) (p1 : Y2) (t2 : Y7) (n3 : Int) (dual4 : Y2) (meet5 join6 : Y6) (x7 y8 : Int), zz16_R8 N n (zz16_E8 kX kO) p1 t2 n3 dual4 meet5 join6 x7 y8 = zz16_l8 N (zz16_X8 kX) n p1 t2 n3 dual4 meet5 join6 x7 y8
  | 0, _, _, _, _, _, _, _, _ => rfl
  | m + 1, p1, t2, n3, dual4, meet5, join6, x7, y8 => by
    have hrec : zz16_R8 N m (zz16_E8 kX kO) = (zz16_l8 N (zz16_X8 kX) m) := (funext fun p1 => (funext fun t2 => (funext fun n3 => (funext fun dual4 => (funext fun meet5 => (funext fun join6 => (funext fun x7 => (funext fun y8 => zz16_iter8 N kX kO m p1 t2 n3 dual4 meet5 join6 x7 y8))))))))
    refine (zz16_step8 N m kX kO p1 t2 n3 dual4 meet5 join6 x7 y8).trans ?_
    rw [hrec]
    rfl
noncomputable abbrev zz16_K8 (N m : Nat) (kX : St → Z8) (kO : Nat → St → Z8) : Ex → St → Z8 := (blockK 2 (blockK 1 (seqK ((A_zz16).shape 13) (run (A_zz16) N (codeAt Try.f50 [1, 1, 1, 1, 0, 1, 0, 0, 1, 1])) (iterK ((A_zz16).shape 10) (run (A_zz16) N (codeAt Try.f50 [1, 1, 1, 1, 0, 1, 0, 0])) m (zz16_E5 kX kO)))))
noncomputable abbrev zz16_k8 (N m : Nat) (kX : St → Z8) (kO : Nat → St → Z8) : St → Z8 := fun st' => run (A_zz16) N (codeAt Try.f50 [1, 1, 1, 1, 0, 1, 0, 0, 1, 1]) st' (iterK ((A_zz16).shape 10) (run (A_zz16) N (codeAt Try.f50 [1, 1, 1, 1, 0, 1, 0, 0])) m (zz16_E5 kX kO))
theorem zz16_after8 (N m : Nat) (kX : St → Z8) (kO : Nat → St → Z8) (p1 : Y2) (t2 : Y7) (n3 : Int) (dual4 : Y2) (meet5 join6 : Y6) (x7 : Int) : zz16_X8 (zz16_k8 N m kX kO) p1 t2 n3 dual4 meet5 join6 x7 = zz16_a8 (zz16_R5 N m (zz16_E5 kX kO)) p1 t2 n3 dual4 meet5 join6 x7 := by kernel_rfl
theorem zz16_in8 (N m : Nat) (kX : St → Z8) (kO : Nat → St → Z8) (recF : Y2 → Y7 → Int → Y2 → Y6 → Y6 → Int → Z8) (hrec : zz16_R5 N m (zz16_E5 kX kO) = recF) (p1 : Y2) (t2 : Y7) (n3 : Int) (dual4 : Y2) (meet5 join6 : Y6) (x7 y8 : Int) : zz16_R8 N N (zz16_K8 N m kX kO) p1 t2 n3 dual4 meet5 join6 x7 y8 = zz16_F8 N recF (zz16_X5 kX) p1 t2 n3 dual4 meet5 join6 x7 y8 :=
  have h : zz16_X8 (zz16_k8 N m kX kO) = (zz16_a8 recF) := (funext fun p1 => (funext fun t2 => (funext fun n3 => (funext fun dual4 => (funext fun meet5 => (funext fun join6 => (funext fun x7 => (zz16_after8 N m kX kO p1 t2 n3 dual4 meet5 join6 x7).trans (by rw [hrec]))))))))
  ((iter_ex (fun st => by kernel_rfl) (fun st => by kernel_rfl)).trans (zz16_iter8 N (zz16_k8 N m kX kO) (fun j st => (zz16_K8 N m kX kO) (.exit j) st) N p1 t2 n3 dual4 meet5 join6 x7 y8)).trans (congrArg (fun k => zz16_l8 N k N p1 t2 n3 dual4 meet5 join6 x7 y8) h)
theorem zz16_step5 (N m : Nat) (kX : St → Z8) (kO : Nat → St → Z8) (p1 : Y2) (t2 : Y7) (n3 : Int) (dual4 : Y2) (meet5 join6 : Y6) (x7 : Int) : zz16_R5 N (m + 1) (zz16_E5 kX kO) p1 t2 n3 dual4 meet5 join6 x7 = zz16_b5 (zz16_R8 N N (zz16_K8 N m kX kO)) (zz16_X5 kX) p1 t2 n3 dual4 meet5 join6 x7 := by kernel_rfl
theorem zz16_iter5 (N : Nat) (kX : St → Z8) (kO : Nat → St → Z8) : ∀ (n : Nat) (p1 : Y2) (t2 : Y7) (n3 : Int) (dual4 : Y2) (meet5 join6 : Y6) (x7 : Int), zz16_R5 N n (zz16_E5 kX kO) p1 t2 n3 dual4 meet5 join6 x7 = zz16_l5 N (zz16_X5 kX) n p1 t2 n3 dual4 meet5 join6 x7
  | 0, _, _, _, _, _, _, _ => rfl
  | m + 1, p1, t2, n3, dual4, meet5, join6, x7 => by
    have hrec : zz16_R5 N m (zz16_E5 kX kO) = (zz16_l5 N (zz16_X5 kX) m) := (funext fun p1 => (funext fun t2 => (funext fun n3 => (funext fun dual4 => (funext fun meet5 => (funext fun join6 => (funext fun x7 => zz16_iter5 N kX kO m p1 t2 n3 dual4 meet5 join6 x7)))))))
    refine (zz16_step5 N m kX kO p1 t2 n3 dual4 meet5 join6 x7).trans ?_
    rw [(funext fun p1 => (funext fun t2 => (funext fun n3 => (funext fun dual4 => (funext fun meet5 => (funext fun join6 => (funext fun x7 => (funext fun y8 => zz16_in8 N m kX kO (zz16_l5 N (zz16_X5 kX) m) hrec p1 t2 n3 dual4 meet5 join6 x7 y8))))))))]
    rfl
noncomputable abbrev zz16_K5 (N : Nat) : Ex → St → Z8 := (blockK 0 (seqK ((A_zz16).shape 25) (run (A_zz16) N (codeAt Try.f50 [1, 1, 1, 1, 1])) zz16_z))
noncomputable abbrev zz16_k5 (N : Nat) : St → Z8 := fun st' => run (A_zz16) N (codeAt Try.f50 [1, 1, 1, 1, 1]) st' zz16_z
theorem zz16_after5 (N : Nat) (t2 : Y7) (n3 : Int) (meet5 join6 : Y6) : zz16_X5 (zz16_k5 N) t2 n3 meet5 join6 = zz16_a5 t2 n3 meet5 join6 := by kernel_rfl
theorem zz16_in5 (N : Nat) (p1 : Y2) (t2 : Y7) (n3 : Int) (dual4 : Y2) (meet5 join6 : Y6) (x7 : Int) : zz16_R5 N N (zz16_K5 N) p1 t2 n3 dual4 meet5 join6 x7 = zz16_F5 N p1 t2 n3 dual4 meet5 join6 x7 :=
  have h : zz16_X5 (zz16_k5 N) = (zz16_a5) := (funext fun t2 => (funext fun n3 => (funext fun meet5 => (funext fun join6 => zz16_after5 N t2 n3 meet5 join6))))
  ((iter_ex (fun st => by kernel_rfl) (fun st => by kernel_rfl)).trans (zz16_iter5 N (zz16_k5 N) (fun j st => (zz16_K5 N) (.exit j) st) N p1 t2 n3 dual4 meet5 join6 x7)).trans (congrArg (fun k => zz16_l5 N k N p1 t2 n3 dual4 meet5 join6 x7) h)
theorem run0_zz16 (N : Nat) (x : (S_zz16).a.den) : runF (A_zz16) N Try.f50 S_zz16 x = (zz16_s (zz16_R5 N N (zz16_K5 N)) x.1) := by kernel_rfl
theorem run_zz16 (N : Nat) (x : (S_zz16).a.den) : runF (A_zz16) N Try.f50 S_zz16 x = zz16 N x.1 := by
  refine (run0_zz16 N x).trans ?_
  rw [(funext fun p1 => (funext fun t2 => (funext fun n3 => (funext fun dual4 => (funext fun meet5 => (funext fun join6 => (funext fun x7 => zz16_in5 N p1 t2 n3 dual4 meet5 join6 x7)))))))]
  rfl
theorem fn_zz16 : FnOk Try.prog 50 := ⟨_, Try.func50, by kernel_rfl, by kernel_rfl⟩
theorem good_zz16 : Gx.Good Try.prog 50 S_zz16 := good_of_run Try.func50 (of_decide_eq_true (by kernel_rfl)) fun x r h => ⟨A_zz16, big, mkCfg_ok tabOk, mkCfg_sigs (show SigsOk Try.prog [(57, S_zz12), (58, S_zz13)] from ⟨⟨fn_zz12, good_zz12⟩, ⟨fn_zz13, good_zz13⟩, trivial⟩), (run_zz16 big x).trans h⟩

/-! zz17 -/
def zz17_b3 (rec : Int → Y4 → Int → Z2) (k : Y4 → Z2) (n0 : Int) (out3 : Y4) (x4 : Int) : Z2 :=
  cond (decide (x4 < n0))
  ((appI out3 [x4]).bind fun xq1 =>
  rec n0 xq1 (IntKind.i64.wrap (x4 + (1 : Int))))
  (k out3)
def zz17_a3 (out3 : Y4) : Z2 :=
  some (out3, (()))
def zz17_s (L3 : Int → Y4 → Int → Z2) (n_0 : Int) : Z2 :=
  L3 n_0 [] (0 : Int)
def zz17_l3 (N : Nat) (k : Y4 → Z2) : Nat → Int → Y4 → Int → Z2
  | 0, _, _, _ => none
  | m + 1, n0, out3, x4 => zz17_b3 (zz17_l3 N k m) k n0 out3 x4
def zz17_F3 (N : Nat) (n0 : Int) (out3 : Y4) (x4 : Int) : Z2 := zz17_l3 N (zz17_a3) N n0 out3 x4
def zz17 (N : Nat) (n_0 : Int) : Z2 := zz17_s (zz17_F3 N) n_0
def S_zz17 : Sig := { a := (.pair I .unit), md := [0], mf := [], m := .unit, r := (.sl I), rf := (.o .i), f := fun x => zz17 big x.1 }
def A_zz17 : Cfg := mkCfg tab [] [(6, [.as I .i, .drop, .drop, .as (.sl I) (.o .i), .as I .i]), (13, [.drop, .drop, .drop, .as (.sl I) (.o .i)])]
noncomputable def zz17_R3 (N n : Nat) (K : Ex → St → Z2) (n0 : Int) (out3 : Y4) (x4 : Int) : Z2 := iter ((A_zz17).shape 6) (run (A_zz17) N (codeAt Try.f113 [1, 1, 0, 1, 0, 0])) n ([.val I .i n0, .u, .u, .val (.sl I) (.o .i) out3, .val I .i x4] ++ List.replicate 11 .u) K
noncomputable abbrev zz17_z : Ex → St → Z2 := finish (A_zz17) S_zz17 Try.f113.results.toList
noncomputable abbrev zz17_X3 (kX : St → Z2) : Y4 → Z2 := fun (out3 : Y4) => kX ([.u, .u, .u, .val (.sl I) (.o .i) out3] ++ List.replicate 12 .u)
noncomputable abbrev zz17_E3 (kX : St → Z2) (kO : Nat → St → Z2) : Ex → St → Z2 := exK zz17_z 0 ((A_zz17).shape 13) kX kO
theorem zz17_step3 (N m : Nat) (kX : St → Z2) (kO : Nat → St → Z2) (n0 : Int) (out3 : Y4) (x4 : Int) : zz17_R3 N (m + 1) (zz17_E3 kX kO) n0 out3 x4 = zz17_b3 (zz17_R3 N m (zz17_E3 kX kO)) (zz17_X3 kX) n0 out3 x4 := by kernel_rfl
theorem zz17_iter3 (N : Nat) (kX : St → Z2) (kO : Nat → St → Z2) : ∀ (n : Nat) (n0 : Int) (out3 : Y4) (x4 : Int), zz17_R3 N n (zz17_E3 kX kO) n0 out3 x4 = zz17_l3 N (zz17_X3 kX) n n0 out3 x4
  | 0, _, _, _ => rfl
  | m + 1, n0, out3, x4 => by
    have hrec : zz17_R3 N m (zz17_E3 kX kO) = (zz17_l3 N (zz17_X3 kX) m) := (funext fun n0 => (funext fun out3 => (funext fun x4 => zz17_iter3 N kX kO m n0 out3 x4)))
    refine (zz17_step3 N m kX kO n0 out3 x4).trans ?_
    rw [hrec]
    rfl
noncomputable abbrev zz17_K3 (N : Nat) : Ex → St → Z2 := (blockK 0 (seqK ((A_zz17).shape 13) (run (A_zz17) N (codeAt Try.f113 [1, 1, 1])) zz17_z))
noncomputable abbrev zz17_k3 (N : Nat) : St → Z2 := fun st' => run (A_zz17) N (codeAt Try.f113 [1, 1, 1]) st' zz17_z
theorem zz17_after3 (N : Nat) (out3 : Y4) : zz17_X3 (zz17_k3 N) out3 = zz17_a3 out3 := by kernel_rfl
theorem zz17_in3 (N : Nat) (n0 : Int) (out3 : Y4) (x4 : Int) : zz17_R3 N N (zz17_K3 N) n0 out3 x4 = zz17_F3 N n0 out3 x4 :=
  have h : zz17_X3 (zz17_k3 N) = (zz17_a3) := (funext fun out3 => zz17_after3 N out3)
  ((iter_ex (fun st => by kernel_rfl) (fun st => by kernel_rfl)).trans (zz17_iter3 N (zz17_k3 N) (fun j st => (zz17_K3 N) (.exit j) st) N n0 out3 x4)).trans (congrArg (fun k => zz17_l3 N k N n0 out3 x4) h)
theorem run0_zz17 (N : Nat) (x : (S_zz17).a.den) : runF (A_zz17) N Try.f113 S_zz17 x = (zz17_s (zz17_R3 N N (zz17_K3 N)) x.1) := by kernel_rfl
theorem run_zz17 (N : Nat) (x : (S_zz17).a.den) : runF (A_zz17) N Try.f113 S_zz17 x = zz17 N x.1 := by
  refine (run0_zz17 N x).trans ?_
  rw [(funext fun n0 => (funext fun out3 => (funext fun x4 => zz17_in3 N n0 out3 x4)))]
  rfl
theorem fn_zz17 : FnOk Try.prog 113 := ⟨_, Try.func113, by kernel_rfl, by kernel_rfl⟩
theorem good_zz17 : Gx.Good Try.prog 113 S_zz17 := good_of_run Try.func113 (of_decide_eq_true (by kernel_rfl)) fun x r h => ⟨A_zz17, big, mkCfg_ok tabOk, mkCfg_sigs (show SigsOk Try.prog [] from trivial), (run_zz17 big x).trans h⟩

/-! zz18 -/
def zz18_s (a_0 b_1 : Int) : Z3 :=
  cond (decide (a_0 < b_1))
  (some (a_0, (())))
  (some (b_1, (())))
def zz18 (a_0 b_1 : Int) : Z3 := zz18_s a_0 b_1
def S_zz18 : Sig := { a := (.pair I (.pair I .unit)), md := [0, 0], mf := [], m := .unit, r := I, rf := .i, f := fun x => zz18 x.1 x.2.1 }
def A_zz18 : Cfg := mkCfg tab [] []
theorem run_zz18 (N : Nat) (x : (S_zz18).a.den) : runF (A_zz18) N Try.f144 S_zz18 x = zz18 x.1 x.2.1 := by kernel_rfl
theorem fn_zz18 : FnOk Try.prog 144 := ⟨_, Try.func144, by kernel_rfl, by kernel_rfl⟩
theorem good_zz18 : Gx.Good Try.prog 144 S_zz18 := good_of_run Try.func144 (of_decide_eq_true (by kernel_rfl)) fun x r h => ⟨A_zz18, big, mkCfg_ok tabOk, mkCfg_sigs (show SigsOk Try.prog [] from trivial), (run_zz18 big x).trans h⟩

/-! zz19 -/
def zz19_s (a_0 b_1 : Int) : Z3 :=
  cond (decide (b_1 < a_0))
  (some (a_0, (())))
  (some (b_1, (())))
def zz19 (a_0 b_1 : Int) : Z3 := zz19_s a_0 b_1
def S_zz19 : Sig := { a := (.pair I (.pair I .unit)), md := [0, 0], mf := [], m := .unit, r := I, rf := .i, f := fun x => zz19 x.1 x.2.1 }
def A_zz19 : Cfg := mkCfg tab [] []
theorem run_zz19 (N : Nat) (x : (S_zz19).a.den) : runF (A_zz19) N Try.f145 S_zz19 x = zz19 x.1 x.2.1 := by kernel_rfl
theorem fn_zz19 : FnOk Try.prog 145 := ⟨_, Try.func145, by kernel_rfl, by kernel_rfl⟩
theorem good_zz19 : Gx.Good Try.prog 145 S_zz19 := good_of_run Try.func145 (of_decide_eq_true (by kernel_rfl)) fun x r h => ⟨A_zz19, big, mkCfg_ok tabOk, mkCfg_sigs (show SigsOk Try.prog [] from trivial), (run_zz19 big x).trans h⟩

/-! zz20 -/
def zz20_b4 (rec : Y4 → Int → Int → Y4 → Int → Z2) (k : Y4 → Z2) (p0 : Y4) (low7 high8 : Int) (out9 : Y4) (z10 : Int) : Z2 :=
  cond (decide (z10 < (p0.length : Int)))
  ((atI p0 z10).bind fun xq7 =>
  cond (decide (xq7 = high8))
  ((appI out9 [low7]).bind fun xq8 =>
  rec p0 low7 high8 xq8 (IntKind.i64.wrap (z10 + (1 : Int))))
  ((atI p0 z10).bind fun xq9 =>
  (appI out9 [xq9]).bind fun xq10 =>
  rec p0 low7 high8 xq10 (IntKind.i64.wrap (z10 + (1 : Int)))))
  (k out9)
def zz20_a4 (out9 : Y4) : Z2 :=
  some (out9, (()))
def zz20_s (L4 : Y4 → Int → Int → Y4 → Int → Z2) (p_0 : Y4) (x_1 y_2 : Int) : Z2 :=
  (atI p_0 x_1).bind fun xq1 =>
  (atI p_0 y_2).bind fun xq2 =>
  (zz18 xq1 xq2).bind fun rq3 =>
  (atI p_0 x_1).bind fun xq4 =>
  (atI p_0 y_2).bind fun xq5 =>
  (zz19 xq4 xq5).bind fun rq6 =>
  L4 p_0 rq3.1 rq6.1 [] (0 : Int)
def zz20_l4 (N : Nat) (k : Y4 → Z2) : Nat → Y4 → Int → Int → Y4 → Int → Z2
  | 0, _, _, _, _, _ => none
  | m + 1, p0, low7, high8, out9, z10 => zz20_b4 (zz20_l4 N k m) k p0 low7 high8 out9 z10
def zz20_F4 (N : Nat) (p0 : Y4) (low7 high8 : Int) (out9 : Y4) (z10 : Int) : Z2 := zz20_l4 N (zz20_a4) N p0 low7 high8 out9 z10
def zz20 (N : Nat) (p_0 : Y4) (x_1 y_2 : Int) : Z2 := zz20_s (zz20_F4 N) p_0 x_1 y_2
def S_zz20 : Sig := { a := (.pair (.sl I) (.pair I (.pair I .unit))), md := [0, 0, 0], mf := [], m := .unit, r := (.sl I), rf := (.o .i), f := fun x => zz20 big x.1 x.2.1 x.2.2.1 }
def A_zz20 : Cfg := mkCfg tab [(144, S_zz18), (145, S_zz19)] [(8, [.as (.sl I) .i, .drop, .drop, .drop, .drop, .drop, .drop, .as I .i, .as I .i, .as (.sl I) (.o .i), .as I .i]), (19, [.drop, .drop, .drop, .drop, .drop, .drop, .drop, .drop, .drop, .as (.sl I) (.o .i)])]
noncomputable def zz20_R4 (N n : Nat) (K : Ex → St → Z2) (p0 : Y4) (low7 high8 : Int) (out9 : Y4) (z10 : Int) : Z2 := iter ((A_zz20).shape 8) (run (A_zz20) N (codeAt Try.f134 [1, 1, 1, 0, 1, 0, 0])) n ([.val (.sl I) .i p0, .u, .u, .u, .u, .u, .u, .val I .i low7, .val I .i high8, .val (.sl I) (.o .i) out9, .val I .i z10] ++ List.replicate 43 .u) K
noncomputable abbrev zz20_z : Ex → St → Z2 := finish (A_zz20) S_zz20 Try.f134.results.toList
noncomputable abbrev zz20_X4 (kX : St → Z2) : Y4 → Z2 := fun (out9 : Y4) => kX ([.u, .u, .u, .u, .u, .u, .u, .u, .u, .val (.sl I) (.o .i) out9] ++ List.replicate 44 .u)
noncomputable abbrev zz20_E4 (kX : St → Z2) (kO : Nat → St → Z2) : Ex → St → Z2 := exK zz20_z 0 ((A_zz20).shape 19) kX kO
theorem zz20_step4 (N m : Nat) (kX : St → Z2) (kO : Nat → St → Z2) (p0 : Y4) (low7 high8 : Int) (out9 : Y4) (z10 : Int) : zz20_R4 N (m + 1) (zz20_E4 kX kO) p0 low7 high8 out9 z10 = zz20_b4 (zz20_R4 N m (zz20_E4 kX kO)) (zz20_X4 kX) p0 low7 high8 out9 z10 := by kernel_rfl
theorem zz20_iter4 (N : Nat) (kX : St → Z2) (kO : Nat → St → Z2) : ∀ (n : Nat) (p0 : Y4) (low7 high8 : Int) (out9 : Y4) (z10 : Int), zz20_R4 N n (zz20_E4 kX kO) p0 low7 high8 out9 z10 = zz20_l4 N (zz20_X4 kX) n p0 low7 high8 out9 z10
  | 0, _, _, _, _, _ => rfl
  | m + 1, p0, low7, high8, out9, z10 => by
    have hrec : zz20_R4 N m (zz20_E4 kX kO) = (zz20_l4 N (zz20_X4 kX) m) := (funext fun p0 => (funext fun low7 => (funext fun high8 => (funext fun out9 => (funext fun z10 => zz20_iter4 N kX kO m p0 low7 high8 out9 z10)))))
    refine (zz20_step4 N m kX kO p0 low7 high8 out9 z10).trans ?_
    rw [hrec]
    rfl
noncomputable abbrev zz20_K4 (N : Nat) : Ex → St → Z2 := (blockK 0 (seqK ((A_zz20).shape 19) (run (A_zz20) N (codeAt Try.f134 [1, 1, 1, 1])) zz20_z))
noncomputable abbrev zz20_k4 (N : Nat) : St → Z2 := fun st' => run (A_zz20) N (codeAt Try.f134 [1, 1, 1, 1]) st' zz20_z
theorem zz20_after4 (N : Nat) (out9 : Y4) : zz20_X4 (zz20_k4 N) out9 = zz20_a4 out9 := by kernel_rfl
theorem zz20_in4 (N : Nat) (p0 : Y4) (low7 high8 : Int) (out9 : Y4) (z10 : Int) : zz20_R4 N N (zz20_K4 N) p0 low7 high8 out9 z10 = zz20_F4 N p0 low7 high8 out9 z10 :=
  have h : zz20_X4 (zz20_k4 N) = (zz20_a4) := (funext fun out9 => zz20_after4 N out9)
  ((iter_ex (fun st => by kernel_rfl) (fun st => by kernel_rfl)).trans (zz20_iter4 N (zz20_k4 N) (fun j st => (zz20_K4 N) (.exit j) st) N p0 low7 high8 out9 z10)).trans (congrArg (fun k => zz20_l4 N k N p0 low7 high8 out9 z10) h)
theorem run0_zz20 (N : Nat) (x : (S_zz20).a.den) : runF (A_zz20) N Try.f134 S_zz20 x = (zz20_s (zz20_R4 N N (zz20_K4 N)) x.1 x.2.1 x.2.2.1) := by kernel_rfl
theorem run_zz20 (N : Nat) (x : (S_zz20).a.den) : runF (A_zz20) N Try.f134 S_zz20 x = zz20 N x.1 x.2.1 x.2.2.1 := by
  refine (run0_zz20 N x).trans ?_
  rw [(funext fun p0 => (funext fun low7 => (funext fun high8 => (funext fun out9 => (funext fun z10 => zz20_in4 N p0 low7 high8 out9 z10)))))]
  rfl
theorem fn_zz20 : FnOk Try.prog 134 := ⟨_, Try.func134, by kernel_rfl, by kernel_rfl⟩
theorem good_zz20 : Gx.Good Try.prog 134 S_zz20 := good_of_run Try.func134 (of_decide_eq_true (by kernel_rfl)) fun x r h => ⟨A_zz20, big, mkCfg_ok tabOk, mkCfg_sigs (show SigsOk Try.prog [(144, S_zz18), (145, S_zz19)] from ⟨⟨fn_zz18, good_zz18⟩, ⟨fn_zz19, good_zz19⟩, trivial⟩), (run_zz20 big x).trans h⟩

/-! zz21 -/
def zz21_s (l_0 : Y4) : Z2 :=
  (appI [] l_0).bind fun xq1 =>
  some (xq1, (()))
def zz21 (l_0 : Y4) : Z2 := zz21_s l_0
def S_zz21 : Sig := { a := (.pair (.sl I) .unit), md := [0], mf := [], m := .unit, r := (.sl I), rf := (.o .i), f := fun x => zz21 x.1 }
def A_zz21 : Cfg := mkCfg tab [] []
theorem run_zz21 (N : Nat) (x : (S_zz21).a.den) : runF (A_zz21) N Try.f135 S_zz21 x = zz21 x.1 := by kernel_rfl
theorem fn_zz21 : FnOk Try.prog 135 := ⟨_, Try.func135, by kernel_rfl, by kernel_rfl⟩
theorem good_zz21 : Gx.Good Try.prog 135 S_zz21 := good_of_run Try.func135 (of_decide_eq_true (by kernel_rfl)) fun x r h => ⟨A_zz21, big, mkCfg_ok tabOk, mkCfg_sigs (show SigsOk Try.prog [] from trivial), (run_zz21 big x).trans h⟩

/-! zz22 -/
def zz22_b3 (rec : Int → Int → Y4 → Int → Z2) (k : Y4 → Z2) (n0 at2 : Int) (out7 : Y4) (i8 : Int) : Z2 :=
  cond (decide ((0 : Int) ≤ i8))
  ((remI at2 n0).bind fun xq3 =>
  (atI out7 i8).bind fun _ =>
  (out7[i8.toNat]?).bind fun xq4 =>
  (quoI IntKind.i64 at2 n0).bind fun xq5 =>
  rec n0 xq5 (out7.set i8.toNat xq3) (IntKind.i64.wrap (i8 - (1 : Int))))
  (k out7)
def zz22_a3 (out7 : Y4) : Z2 :=
  some (out7, (()))
def zz22_s (L3 : Int → Int → Y4 → Int → Z2) (n_0 arity_1 at_2 : Int) : Z2 :=
  (mkI (0 : Int) arity_1).bind fun xq1 => (mkI (0 : Int) arity_1).bind fun xq2 => cond (decide (arity_1 ≤ arity_1))
  (L3 n_0 at_2 xq2 (IntKind.i64.wrap (arity_1 - (1 : Int))))
  none
def zz22_l3 (N : Nat) (k : Y4 → Z2) : Nat → Int → Int → Y4 → Int → Z2
  | 0, _, _, _, _ => none
  | m + 1, n0, at2, out7, i8 => zz22_b3 (zz22_l3 N k m) k n0 at2 out7 i8
def zz22_F3 (N : Nat) (n0 at2 : Int) (out7 : Y4) (i8 : Int) : Z2 := zz22_l3 N (zz22_a3) N n0 at2 out7 i8
def zz22 (N : Nat) (n_0 arity_1 at_2 : Int) : Z2 := zz22_s (zz22_F3 N) n_0 arity_1 at_2
def S_zz22 : Sig := { a := (.pair I (.pair I (.pair I .unit))), md := [0, 0, 0], mf := [], m := .unit, r := (.sl I), rf := (.o .i), f := fun x => zz22 big x.1 x.2.1 x.2.2.1 }
def A_zz22 : Cfg := mkCfg tab [] [(6, [.as I .i, .drop, .as I .i, .drop, .drop, .drop, .drop, .as (.sl I) (.o .i), .as I .i]), (15, [.drop, .drop, .drop, .drop, .drop, .drop, .drop, .as (.sl I) (.o .i)])]
noncomputable def zz22_R3 (N n : Nat) (K : Ex → St → Z2) (n0 at2 : Int) (out7 : Y4) (i8 : Int) : Z2 := iter ((A_zz22).shape 6) (run (A_zz22) N (codeAt Try.f152 [1, 1, 0, 1, 0, 0])) n ([.val I .i n0, .u, .val I .i at2, .u, .u, .u, .u, .val (.sl I) (.o .i) out7, .val I .i i8] ++ List.replicate 18 .u) K
noncomputable abbrev zz22_z : Ex → St → Z2 := finish (A_zz22) S_zz22 Try.f152.results.toList
noncomputable abbrev zz22_X3 (kX : St → Z2) : Y4 → Z2 := fun (out7 : Y4) => kX ([.u, .u, .u, .u, .u, .u, .u, .val (.sl I) (.o .i) out7] ++ List.replicate 19 .u)
noncomputable abbrev zz22_E3 (kX : St → Z2) (kO : Nat → St → Z2) : Ex → St → Z2 := exK zz22_z 0 ((A_zz22).shape 15) kX kO
theorem zz22_step3 (N m : Nat) (kX : St → Z2) (kO : Nat → St → Z2) (n0 at2 : Int) (out7 : Y4) (i8 : Int) : zz22_R3 N (m + 1) (zz22_E3 kX kO) n0 at2 out7 i8 = zz22_b3 (zz22_R3 N m (zz22_E3 kX kO)) (zz22_X3 kX) n0 at2 out7 i8 := by kernel_rfl
theorem zz22_iter3 (N : Nat) (kX : St → Z2) (kO : Nat → St → Z2) : ∀ (n : Nat) (n0 at2 : Int) (out7 : Y4) (i8 : Int), zz22_R3 N n (zz22_E3 kX kO) n0 at2 out7 i8 = zz22_l3 N (zz22_X3 kX) n n0 at2 out7 i8
  | 0, _, _, _, _ => rfl
  | m + 1, n0, at2, out7, i8 => by
    have hrec : zz22_R3 N m (zz22_E3 kX kO) = (zz22_l3 N (zz22_X3 kX) m) := (funext fun n0 => (funext fun at2 => (funext fun out7 => (funext fun i8 => zz22_iter3 N kX kO m n0 at2 out7 i8))))
    refine (zz22_step3 N m kX kO n0 at2 out7 i8).trans ?_
    rw [hrec]
    rfl
noncomputable abbrev zz22_K3 (N : Nat) : Ex → St → Z2 := (blockK 0 (seqK ((A_zz22).shape 15) (run (A_zz22) N (codeAt Try.f152 [1, 1, 1])) zz22_z))
noncomputable abbrev zz22_k3 (N : Nat) : St → Z2 := fun st' => run (A_zz22) N (codeAt Try.f152 [1, 1, 1]) st' zz22_z
theorem zz22_after3 (N : Nat) (out7 : Y4) : zz22_X3 (zz22_k3 N) out7 = zz22_a3 out7 := by kernel_rfl
theorem zz22_in3 (N : Nat) (n0 at2 : Int) (out7 : Y4) (i8 : Int) : zz22_R3 N N (zz22_K3 N) n0 at2 out7 i8 = zz22_F3 N n0 at2 out7 i8 :=
  have h : zz22_X3 (zz22_k3 N) = (zz22_a3) := (funext fun out7 => zz22_after3 N out7)
  ((iter_ex (fun st => by kernel_rfl) (fun st => by kernel_rfl)).trans (zz22_iter3 N (zz22_k3 N) (fun j st => (zz22_K3 N) (.exit j) st) N n0 at2 out7 i8)).trans (congrArg (fun k => zz22_l3 N k N n0 at2 out7 i8) h)
theorem run0_zz22 (N : Nat) (x : (S_zz22).a.den) : runF (A_zz22) N Try.f152 S_zz22 x = (zz22_s (zz22_R3 N N (zz22_K3 N)) x.1 x.2.1 x.2.2.1) := by kernel_rfl
theorem run_zz22 (N : Nat) (x : (S_zz22).a.den) : runF (A_zz22) N Try.f152 S_zz22 x = zz22 N x.1 x.2.1 x.2.2.1 := by
  refine (run0_zz22 N x).trans ?_
  rw [(funext fun n0 => (funext fun at2 => (funext fun out7 => (funext fun i8 => zz22_in3 N n0 at2 out7 i8))))]
  rfl
theorem fn_zz22 : FnOk Try.prog 152 := ⟨_, Try.func152, by kernel_rfl, by kernel_rfl⟩
theorem good_zz22 : Gx.Good Try.prog 152 S_zz22 := good_of_run Try.func152 (of_decide_eq_true (by kernel_rfl)) fun x r h => ⟨A_zz22, big, mkCfg_ok tabOk, mkCfg_sigs (show SigsOk Try.prog [] from trivial), (run_zz22 big x).trans h⟩

/-! zz23 -/
def zz23_b3 (rec : Int → Y4 → Y7 → Int → Int → Z3) (k : Int → Y7 → Int → Z3) (op1 : Int) (args2 : Y4) (a3 : Y7) (at7 i8 : Int) : Z3 :=
  cond (decide (i8 < (args2.length : Int)))
  ((atI args2 i8).bind fun xq1 =>
  rec op1 args2 a3 (IntKind.i64.wrap ((IntKind.i64.wrap (at7 * a3.1)) + xq1)) (IntKind.i64.wrap (i8 + (1 : Int))))
  (k op1 a3 at7)
def zz23_a3 (op1 : Int) (a3 : Y7) (at7 : Int) : Z3 :=
  (atI a3.2.1 op1).bind fun xq2 =>
  (atI xq2.2.1 at7).bind fun xq3 =>
  some (xq3, (()))
def zz23_s (L3 : Int → Y4 → Y7 → Int → Int → Z3) (a_0 : Y7) (op_1 : Int) (args_2 : Y4) : Z3 :=
  L3 op_1 args_2 a_0 (0 : Int) (0 : Int)
def zz23_l3 (N : Nat) (k : Int → Y7 → Int → Z3) : Nat → Int → Y4 → Y7 → Int → Int → Z3
  | 0, _, _, _, _, _ => none
  | m + 1, op1, args2, a3, at7, i8 => zz23_b3 (zz23_l3 N k m) k op1 args2 a3 at7 i8
def zz23_F3 (N : Nat) (op1 : Int) (args2 : Y4) (a3 : Y7) (at7 i8 : Int) : Z3 := zz23_l3 N (zz23_a3) N op1 args2 a3 at7 i8
def zz23 (N : Nat) (a_0 : Y7) (op_1 : Int) (args_2 : Y4) : Z3 := zz23_s (zz23_F3 N) a_0 op_1 args_2
def S_zz23 : Sig := { a := (.pair (.pair I (.pair (.sl (.pair I (.pair (.sl I) .unit))) .unit)) (.pair I (.pair (.sl I) .unit))), md := [0, 0, 0], mf := [], m := .unit, r := I, rf := .i, f := fun x => zz23 big x.1 x.2.1 x.2.2.1 }
def A_zz23 : Cfg := mkCfg tab [] [(6, [.drop, .as I .i, .as (.sl I) .i, .as (.ptr (.pair I (.pair (.sl (.pair I (.pair (.sl I) .unit))) .unit))) (.o .i), .drop, .drop, .drop, .as I .i, .as I .i]), (13, [.drop, .as I .i, .drop, .as (.ptr (.pair I (.pair (.sl (.pair I (.pair (.sl I) .unit))) .unit))) (.o .i), .drop, .drop, .drop, .as I .i])]
noncomputable def zz23_R3 (N n : Nat) (K : Ex → St → Z3) (op1 : Int) (args2 : Y4) (a3 : Y7) (at7 i8 : Int) : Z3 := iter ((A_zz23).shape 6) (run (A_zz23) N (codeAt Try.f153 [1, 1, 0, 1, 0, 0])) n ([.u, .val I .i op1, .val (.sl I) .i args2, .val (.ptr (.pair I (.pair (.sl (.pair I (.pair (.sl I) .unit))) .unit))) (.o .i) a3, .u, .u, .u, .val I .i at7, .val I .i i8] ++ List.replicate 24 .u) K
noncomputable abbrev zz23_z : Ex → St → Z3 := finish (A_zz23) S_zz23 Try.f153.results.toList
noncomputable abbrev zz23_X3 (kX : St → Z3) : Int → Y7 → Int → Z3 := fun (op1 : Int) (a3 : Y7) (at7 : Int) => kX ([.u, .val I .i op1, .u, .val (.ptr (.pair I (.pair (.sl (.pair I (.pair (.sl I) .unit))) .unit))) (.o .i) a3, .u, .u, .u, .val I .i at7] ++ List.replicate 25 .u)
noncomputable abbrev zz23_E3 (kX : St → Z3) (kO : Nat → St → Z3) : Ex → St → Z3 := exK zz23_z 0 ((A_zz23).shape 13) kX kO
theorem zz23_step3 (N m : Nat) (kX : St → Z3) (kO : Nat → St → Z3) (op1 : Int) (args2 : Y4) (a3 : Y7) (at7 i8 : Int) : zz23_R3 N (m + 1) (zz23_E3 kX kO) op1 args2 a3 at7 i8 = zz23_b3 (zz23_R3 N m (zz23_E3 kX kO)) (zz23_X3 kX) op1 args2 a3 at7 i8 := by kernel_rfl
theorem zz23_iter3 (N : Nat) (kX : St → Z3) (kO : Nat → St → Z3) : ∀ (n : Nat) (op1 : Int) (args2 : Y4) (a3 : Y7) (at7 i8 : Int), zz23_R3 N n (zz23_E3 kX kO) op1 args2 a3 at7 i8 = zz23_l3 N (zz23_X3 kX) n op1 args2 a3 at7 i8
  | 0, _, _, _, _, _ => rfl
  | m + 1, op1, args2, a3, at7, i8 => by
    have hrec : zz23_R3 N m (zz23_E3 kX kO) = (zz23_l3 N (zz23_X3 kX) m) := (funext fun op1 => (funext fun args2 => (funext fun a3 => (funext fun at7 => (funext fun i8 => zz23_iter3 N kX kO m op1 args2 a3 at7 i8)))))
    refine (zz23_step3 N m kX kO op1 args2 a3 at7 i8).trans ?_
    rw [hrec]
    rfl
noncomputable abbrev zz23_K3 (N : Nat) : Ex → St → Z3 := (blockK 0 (seqK ((A_zz23).shape 13) (run (A_zz23) N (codeAt Try.f153 [1, 1, 1])) zz23_z))
noncomputable abbrev zz23_k3 (N : Nat) : St → Z3 := fun st' => run (A_zz23) N (codeAt Try.f153 [1, 1, 1]) st' zz23_z
theorem zz23_after3 (N : Nat) (op1 : Int) (a3 : Y7) (at7 : Int) : zz23_X3 (zz23_k3 N) op1 a3 at7 = zz23_a3 op1 a3 at7 := by kernel_rfl
theorem zz23_in3 (N : Nat) (op1 : Int) (args2 : Y4) (a3 : Y7) (at7 i8 : Int) : zz23_R3 N N (zz23_K3 N) op1 args2 a3 at7 i8 = zz23_F3 N op1 args2 a3 at7 i8 :=
  have h : zz23_X3 (zz23_k3 N) = (zz23_a3) := (funext fun op1 => (funext fun a3 => (funext fun at7 => zz23_after3 N op1 a3 at7)))
  ((iter_ex (fun st => by kernel_rfl) (fun st => by kernel_rfl)).trans (zz23_iter3 N (zz23_k3 N) (fun j st => (zz23_K3 N) (.exit j) st) N op1 args2 a3 at7 i8)).trans (congrArg (fun k => zz23_l3 N k N op1 args2 a3 at7 i8) h)
theorem run0_zz23 (N : Nat) (x : (S_zz23).a.den) : runF (A_zz23) N Try.f153 S_zz23 x = (zz23_s (zz23_R3 N N (zz23_K3 N)) x.1 x.2.1 x.2.2.1) := by kernel_rfl
theorem run_zz23 (N : Nat) (x : (S_zz23).a.den) : runF (A_zz23) N Try.f153 S_zz23 x = zz23 N x.1 x.2.1 x.2.2.1 := by
  refine (run0_zz23 N x).trans ?_
  rw [(funext fun op1 => (funext fun args2 => (funext fun a3 => (funext fun at7 => (funext fun i8 => zz23_in3 N op1 args2 a3 at7 i8)))))]
  rfl
theorem fn_zz23 : FnOk Try.prog 153 := ⟨_, Try.func153, by kernel_rfl, by kernel_rfl⟩
theorem good_zz23 : Gx.Good Try.prog 153 S_zz23 := good_of_run Try.func153 (of_decide_eq_true (by kernel_rfl)) fun x r h => ⟨A_zz23, big, mkCfg_ok tabOk, mkCfg_sigs (show SigsOk Try.prog [] from trivial), (run_zz23 big x).trans h⟩

/-! zz24 -/
def zz24_b10 (rec : Y4 → Y7 → Y4 → Int → Int → Y4 → Int → Z2) (k : Y4 → Y7 → Y4 → Int → Int → Z2) (p1 : Y4) (a2 : Y7) (out5 : Y4) (op6 at7 : Int) (args8 : Y4) (k9 : Int) : Z2 :=
  cond (decide (k9 < (args8.length : Int)))
  ((zz21 args8).bind fun rq5 =>
  (atI args8 k9).bind fun _ =>
  (args8[k9.toNat]?).bind fun xq6 =>
  (atI p1 xq6).bind fun xq7 =>
  (atI rq5.1 k9).bind fun _ =>
  (rq5.1[k9.toNat]?).bind fun xq8 =>
  (atI a2.2.1 op6).bind fun xq9 =>
  (atI xq9.2.1 at7).bind fun xq10 =>
  (zz23 big a2 op6 (rq5.1.set k9.toNat xq7)).bind fun rq11 =>
  (zz20 big out5 xq10 rq11.1).bind fun rq12 =>
  rec p1 a2 rq12.1 op6 at7 args8 (IntKind.i64.wrap (k9 + (1 : Int))))
  (k p1 a2 out5 op6 at7)
def zz24_a10 (rec : Y4 → Y7 → Y4 → Int → Int → Z2) (p1 : Y4) (a2 : Y7) (out5 : Y4) (op6 at7 : Int) : Z2 :=
  rec p1 a2 out5 op6 (IntKind.i64.wrap (at7 + (1 : Int)))
def zz24_b6 (L10 : Y4 → Y7 → Y4 → Int → Int → Y4 → Int → Z2) (k : Y4 → Y7 → Y4 → Int → Z2) (p1 : Y4) (a2 : Y7) (out5 : Y4) (op6 at7 : Int) : Z2 :=
  (atI a2.2.1 op6).bind fun xq2 =>
  cond (decide (at7 < (xq2.2.1.length : Int)))
  ((atI a2.2.1 op6).bind fun xq3 =>
  (zz22 big a2.1 xq3.1 at7).bind fun rq4 =>
  L10 p1 a2 out5 op6 at7 rq4.1 (0 : Int))
  (k p1 a2 out5 op6)
def zz24_a6 (rec : Y4 → Y7 → Y4 → Int → Z2) (p1 : Y4) (a2 : Y7) (out5 : Y4) (op6 : Int) : Z2 :=
  rec p1 a2 out5 (IntKind.i64.wrap (op6 + (1 : Int)))
def zz24_b3 (L6 : Y4 → Y7 → Y4 → Int → Int → Z2) (k : Y4 → Z2) (p1 : Y4) (a2 : Y7) (out5 : Y4) (op6 : Int) : Z2 :=
  cond (decide (op6 < (a2.2.1.length : Int)))
  (L6 p1 a2 out5 op6 (0 : Int))
  (k out5)
def zz24_a3 (out5 : Y4) : Z2 :=
  some (out5, (()))
def zz24_s (L3 : Y4 → Y7 → Y4 → Int → Z2) (a_0 : Y7) (p_1 : Y4) : Z2 :=
  (zz21 p_1).bind fun rq1 =>
  L3 p_1 a_0 rq1.1 (0 : Int)
def zz24_l10 (N : Nat) (k : Y4 → Y7 → Y4 → Int → Int → Z2) : Nat → Y4 → Y7 → Y4 → Int → Int → Y4 → Int → Z2
  | 0, _, _, _, _, _, _, _ => none
  | m + 1, p1, a2, out5, op6, at7, args8, k9 => zz24_b10 (zz24_l10 N k m) k p1 a2 out5 op6 at7 args8 k9
def zz24_F10 (N : Nat) (rec : Y4 → Y7 → Y4 → Int → Int → Z2) (k : Y4 → Y7 → Y4 → Int → Z2) (p1 : Y4) (a2 : Y7) (out5 : Y4) (op6 at7 : Int) (args8 : Y4) (k9 : Int) : Z2 := zz24_l10 N (zz24_a10 rec) N p1 a2 out5 op6 at7 args8 k9
def zz24_l6 (N : Nat) (k : Y4 → Y7 → Y4 → Int → Z2) : Nat → Y4 → Y7 → Y4 → Int → Int → Z2
  | 0, _, _, _, _, _ => none
  | m + 1, p1, a2, out5, op6, at7 => zz24_b6 (zz24_F10 N (zz24_l6 N k m) k) k p1 a2 out5 op6 at7
def zz24_F6 (N : Nat) (rec : Y4 → Y7 → Y4 → Int → Z2) (k : Y4 → Z2) (p1 : Y4) (a2 : Y7) (out5 : Y4) (op6 at7 : Int) : Z2 := zz24_l6 N (zz24_a6 rec) N p1 a2 out5 op6 at7
def zz24_l3 (N : Nat) (k : Y4 → Z2) : Nat → Y4 → Y7 → Y4 → Int → Z2
  | 0, _, _, _, _ => none
  | m + 1, p1, a2, out5, op6 => zz24_b3 (zz24_F6 N (zz24_l3 N k m) k) k p1 a2 out5 op6
def zz24_F3 (N : Nat) (p1 : Y4) (a2 : Y7) (out5 : Y4) (op6 : Int) : Z2 := zz24_l3 N (zz24_a3) N p1 a2 out5 op6
def zz24 (N : Nat) (a_0 : Y7) (p_1 : Y4) : Z2 := zz24_s (zz24_F3 N) a_0 p_1
def S_zz24 : Sig := { a := (.pair (.pair I (.pair (.sl (.pair I (.pair (.sl I) .unit))) .unit)) (.pair (.sl I) .unit)), md := [0, 0], mf := [], m := .unit, r := (.sl I), rf := (.o .i), f := fun x => zz24 big x.1 x.2.1 }
def A_zz24 : Cfg := mkCfg tab [(135, S_zz21), (152, S_zz22), (153, S_zz23), (134, S_zz20)] [(6, [.drop, .as (.sl I) .i, .as (.ptr (.pair I (.pair (.sl (.pair I (.pair (.sl I) .unit))) .unit))) (.o .i), .drop, .drop, .as (.sl I) (.o .i), .as I .i]), (12, [.drop, .as (.sl I) .i, .as (.ptr (.pair I (.pair (.sl (.pair I (.pair (.sl I) .unit))) .unit))) (.o .i), .drop, .drop, .as (.sl I) (.o .i), .as I .i, .as I .i]), (31, [.drop, .drop, .drop, .drop, .drop, .as (.sl I) (.o .i)]), (20, [.drop, .as (.sl I) .i, .as (.ptr (.pair I (.pair (.sl (.pair I (.pair (.sl I) .unit))) .unit))) (.o .i), .drop, .drop, .as (.sl I) (.o .i), .as I .i, .as I .i, .as (.sl I) (.o .i), .as I .i]), (9, [.drop, .as (.sl I) .i, .as (.ptr (.pair I (.pair (.sl (.pair I (.pair (.sl I) .unit))) .unit))) (.o .i), .drop, .drop, .as (.sl I) (.o .i), .as I .i]), (15, [.drop, .as (.sl I) .i, .as (.ptr (.pair I (.pair (.sl (.pair I (.pair (.sl I) .unit))) .unit))) (.o .i), .drop, .drop, .as (.sl I) (.o .i), .as I .i, .as I .i])]
noncomputable def zz24_R3 (N n : Nat) (K : Ex → St → Z2) (p1 : Y4) (a2 : Y7) (out5 : Y4) (op6 : Int) : Z2 := iter ((A_zz24).shape 6) (run (A_zz24) N (codeAt Try.f143 [1, 1, 0, 1, 0, 0])) n ([.u, .val (.sl I) .i p1, .val (.ptr (.pair I (.pair (.sl (.pair I (.pair (.sl I) .unit))) .unit))) (.o .i) a2, .u, .u, .val (.sl I) (.o .i) out5, .val I .i op6] ++ List.replicate 68 .u) K
noncomputable def zz24_R6 (N n : Nat) (K : Ex → St → Z2) (p1 : Y4) (a2 : Y7) (out5 : Y4) (op6 at7 : Int) : Z2 := iter ((A_zz24).shape 12) (run (A_zz24) N (codeAt Try.f143 [1, 1, 0, 1, 0, 0, 1, 0, 0, 1, 0, 0])) n ([.u, .val (.sl I) .i p1, .val (.ptr (.pair I (.pair (.sl (.pair I (.pair (.sl I) .unit))) .unit))) (.o .i) a2, .u, .u, .val (.sl I) (.o .i) out5, .val I .i op6, .val I .i at7] ++ List.replicate 67 .u) K
noncomputable def zz24_R10 (N n : Nat) (K : Ex → St → Z2) (p1 : Y4) (a2 : Y7) (out5 : Y4) (op6 at7 : Int) (args8 : Y4) (k9 : Int) : Z2 := iter ((A_zz24).shape 20) (run (A_zz24) N (codeAt Try.f143 [1, 1, 0, 1, 0, 0, 1, 0, 0, 1, 0, 0, 1, 0, 0, 1, 1, 0, 0])) n ([.u, .val (.sl I) .i p1, .val (.ptr (.pair I (.pair (.sl (.pair I (.pair (.sl I) .unit))) .unit))) (.o .i) a2, .u, .u, .val (.sl I) (.o .i) out5, .val I .i op6, .val I .i at7, .val (.sl I) (.o .i) args8, .val I .i k9] ++ List.replicate 65 .u) K
noncomputable abbrev zz24_z : Ex → St → Z2 := finish (A_zz24) S_zz24 Try.f143.results.toList
noncomputable abbrev zz24_X3 (kX : St → Z2) : Y4 → Z2 := fun (out5 : Y4) => kX ([.u, .u, .u, .u, .u, .val (.sl I) (.o .i) out5] ++ List.replicate 69 .u)
noncomputable abbrev zz24_E3 (kX : St → Z2) (kO : Nat → St → Z2) : Ex → St → Z2 := exK zz24_z 0 ((A_zz24).shape 31) kX kO
noncomputable abbrev zz24_X6 (kX : St → Z2) : Y4 → Y7 → Y4 → Int → Z2 := fun (p1 : Y4) (a2 : Y7) (out5 : Y4) (op6 : Int) => kX ([.u, .val (.sl I) .i p1, .val (.ptr (.pair I (.pair (.sl (.pair I (.pair (.sl I) .unit))) .unit))) (.o .i) a2, .u, .u, .val (.sl I) (.o .i) out5, .val I .i op6] ++ List.replicate 68 .u)
noncomputable abbrev zz24_E6 (kX : St → Z2) (kO : Nat → St → Z2) : Ex → St → Z2 := exK zz24_z 2 ((A_zz24).shape 9) kX kO
noncomputable abbrev zz24_X10 (kX : St → Z2) : Y4 → Y7 → Y4 → Int → Int → Z2 := fun (p1 : Y4) (a2 : Y7) (out5 : Y4) (op6 at7 : Int) => kX ([.u, .val (.sl I) .i p1, .val (.ptr (.pair I (.pair (.sl (.pair I (.pair (.sl I) .unit))) .unit))) (.o .i) a2, .u, .u, .val (.sl I) (.o .i) out5, .val I .i op6, .val I .i at7] ++ List.replicate 67 .u)
noncomputable abbrev zz24_E10 (kX : St → Z2) (kO : Nat → St → Z2) : Ex → St → Z2 := exK zz24_z 4 ((A_zz24).shape 15) kX kO
theorem zz24_step10 (N m : Nat) (kX : St → Z2) (kO : Nat → St → Z2) (p1 : Y4) (a2 : Y7) (out5 : Y4) (op6 at7 : Int) (args8 : Y4) (k9 : Int) : zz24_R10 N (m + 1) (zz24_E10 kX kO) p1 a2 out5 op6 at7 args8 k9 = zz24_b10 (zz24_R10 N m (zz24_E10 kX kO)) (zz24_X10 kX) p1 a2 out5 op6 at7 args8 k9 := by kernel_rfl
theorem zz24_iter10 (N : Nat) (kX : St → Z2) (kO : Nat → St → Z2) : ∀ (n : Nat) (p1 : Y4) (a2 : Y7) (out5 : Y4) (op6 at7 : Int) (args8 : Y4) (k9 : Int), zz24_R10 N n (zz24_E10 kX kO) p1 a2 out5 op6 at7 args8 k9 = zz24_l10 N (zz24_X10 kX) n p1 a2 out5 op6 at7 args8 k9
  | 0, _, _, _, _, _, _, _ => rfl
  | m + 1, p1, a2, out5, op6, at7, args8, k9 => by
    have hrec : zz24_R10 N m (zz24_E10 kX kO) = (zz24_l10 N (zz24_X10 kX) m) := (funext fun p1 => (funext fun a2 => (funext fun out5 => (funext fun op6 => (funext fun at7 => (funext fun args8 => (funext fun k9 => zz24_iter10 N kX kO m p1 a2 out5 op6 at7 args8 k9)))))))
    refine (zz24_step10 N m kX kO p1 a2 out5 op6 at7 args8 k9).trans ?_
    rw [hrec]
    rfl
noncomputable abbrev zz24_K10 (N m : Nat) (kX : St → Z2) (kO : Nat → St → Z2) : Ex → St → Z2 := (blockK 4 (blockK 3 (seqK ((A_zz24).shape 15) (run (A_zz24) N (codeAt Try.f143 [1, 1, 0, 1, 0, 0, 1, 0, 0, 1, 0, 0, 1, 1])) (iterK ((A_zz24).shape 12) (run (A_zz24) N (codeAt Try.f143 [1, 1, 0, 1, 0, 0, 1, 0, 0, 1, 0, 0])) m (zz24_E6 kX kO)))))
noncomputable abbrev zz24_k10 (N m : Nat) (kX : St → Z2) (kO : Nat → St → Z2) : St → Z2 := fun st' => run (A_zz24) N (codeAt Try.f143 [1, 1, 0, 1, 0, 0, 1, 0, 0, 1, 0, 0, 1, 1]) st' (iterK ((A_zz24).shape 12) (run (A_zz24) N (codeAt Try.f143 [1, 1, 0, 1, 0, 0, 1, 0, 0, 1, 0, 0])) m (zz24_E6 kX kO))
theorem zz24_after10 (N m : Nat) (kX : St → Z2) (kO : Nat → St → Z2) (p1 : Y4) (a2 : Y7) (out5 : Y4) (op6 at7 : Int) : zz24_X10 (zz24_k10 N m kX kO) p1 a2 out5 op6 at7 = zz24_a10 (zz24_R6 N m (zz24_E6 kX kO)) p1 a2 out5 op6 at7 := by kernel_rfl
theorem zz24_in10 (N m : Nat) (kX : St → Z2) (kO : Nat → St → Z2) (recF : Y4 → Y7 → Y4 → Int → Int → Z2) (hrec : zz24_R6 N m (zz24_E6 kX kO) = recF) (p1 : Y4) (a2 : Y7) (out5 : Y4) (op6 at7 : Int) (args8 : Y4) (k9 : Int) : zz24_R10 N N (zz24_K10 N m kX kO) p1 a2 out5 op6 at7 args8 k9 = zz24_F10 N recF (zz24_X6 kX) p1 a2 out5 op6 at7 args8 k9 :=
  have h : zz24_X10 (zz24_k10 N m kX kO) = (zz24_a10 recF) := (funext fun p1 => (funext fun a2 => (funext fun out5 => (funext fun op6 => (funext fun at7 => (zz24_after10 N m kX kO p1 a2 out5 op6 at7).trans (by rw [hrec]))))))
  ((iter_ex (fun st => by kernel_rfl) (fun st => by kernel_rfl)).trans (zz24_iter10 N (zz24_k10 N m kX kO) (fun j st => (zz24_K10 N m kX kO) (.exit j) st) N p1 a2 out5 op6 at7 args8 k9)).trans (congrArg (fun k => zz24_l10 N k N p1 a2 out5 op6 at7 args8 k9) h)
theorem zz24_step6 (N m : Nat) (kX : St → Z2) (kO : Nat → St → Z2) (p1 : Y4) (a2 : Y7) (out5 : Y4) (op6 at7 : Int) : zz24_R6 N (m + 1) (zz24_E6 kX kO) p1 a2 out5 op6 at7 = zz24_b6 (zz24_R10 N N (zz24_K10 N m kX kO)) (zz24_X6 kX) p1 a2 out5 op6 at7 := by kernel_rfl
theorem zz24_iter6 (N : Nat) (kX : St → Z2) (kO : Nat → St → Z2) : ∀ (n : Nat) (p1 : Y4) (a2 : Y7) (out5 : Y4) (op6 at7 : Int), zz24_R6 N n (zz24_E6 kX kO) p1 a2 out5 op6 at7 = zz24_l6 N (zz24_X6 kX) n p1 a2 out5 op6 at7
  | 0, _, _, _, _, _ => rfl
  | m + 1, p1, a2, out5, op6, at7 => by
    have hrec : zz24_R6 N m (zz24_E6 kX kO) = (zz24_l6 N (zz24_X6 kX) m) := (funext fun p1 => (funext fun a2 => (funext fun out5 => (funext fun op6 => (funext fun at7 => zz24_iter6 N kX kO m p1 a2 out5 op6 at7)))))
    refine (zz24_step6 N m kX kO p1 a2 out5 op6 at7).trans ?_
    rw [(funext fun p1 => (funext fun a2 => (funext fun out5 => (funext fun op6 => (funext fun at7 => (funext fun args8 => (funext fun k9 => zz24_in10 N m kX kO (zz24_l6 N (zz24_X6 kX) m) hrec p1 a2 out5 op6 at7 args8 k9)))))))]
    rfl
noncomputable abbrev zz24_K6 (N m : Nat) (kX : St → Z2) (kO : Nat → St → Z2) : Ex → St → Z2 := (blockK 2 (blockK 1 (seqK ((A_zz24).shape 9) (run (A_zz24) N (codeAt Try.f143 [1, 1, 0, 1, 0, 0, 1, 1])) (iterK ((A_zz24).shape 6) (run (A_zz24) N (codeAt Try.f143 [1, 1, 0, 1, 0, 0])) m (zz24_E3 kX kO)))))
noncomputable abbrev zz24_k6 (N m : Nat) (kX : St → Z2) (kO : Nat → St → Z2) : St → Z2 := fun st' => run (A_zz24) N (codeAt Try.f143 [1, 1, 0, 1, 0, 0, 1, 1]) st' (iterK ((A_zz24).shape 6) (run (A_zz24) N (codeAt Try.f143 [1, 1, 0, 1, 0, 0])) m (zz24_E3 kX kO))
theorem zz24_after6 (N m : Nat) (kX : St → Z2) (kO : Nat → St → Z2) (p1 : Y4) (a2 : Y7) (out5 : Y4) (op6 : Int) : zz24_X6 (zz24_k6 N m kX kO) p1 a2 out5 op6 = zz24_a6 (zz24_R3 N m (zz24_E3 kX kO)) p1 a2 out5 op6 := by kernel_rfl
theorem zz24_in6 (N m : Nat) (kX : St → Z2) (kO : Nat → St → Z2) (recF : Y4 → Y7 → Y4 → Int → Z2) (hrec : zz24_R3 N m (zz24_E3 kX kO) = recF) (p1 : Y4) (a2 : Y7) (out5 : Y4) (op6 at7 : Int) : zz24_R6 N N (zz24_K6 N m kX kO) p1 a2 out5 op6 at7 = zz24_F6 N recF (zz24_X3 kX) p1 a2 out5 op6 at7 :=
  have h : zz24_X6 (zz24_k6 N m kX kO) = (zz24_a6 recF) := (funext fun p1 => (funext fun a2 => (funext fun out5 => (funext fun op6 => (zz24_after6 N m kX kO p1 a2 out5 op6).trans (by rw [hrec])))))
  ((iter_ex (fun st => by kernel_rfl) (fun st => by kernel_rfl)).trans (zz24_iter6 N (zz24_k6 N m kX kO) (fun j st => (zz24_K6 N m kX kO) (.exit j) st) N p1 a2 out5 op6 at7)).trans (congrArg (fun k => zz24_l6 N k N p1 a2 out5 op6 at7) h)
theorem zz24_step3 (N m : Nat) (kX : St → Z2) (kO : Nat → St → Z2) (p1 : Y4) (a2 : Y7) (out5 : Y4) (op6 : Int) : zz24_R3 N (m + 1) (zz24_E3 kX kO) p1 a2 out5 op6 = zz24_b3 (zz24_R6 N N (zz24_K6 N m kX kO)) (zz24_X3 kX) p1 a2 out5 op6 := by kernel_rfl
theorem zz24_iter3 (N : Nat) (kX : St → Z2) (kO : Nat → St → Z2) : ∀ (n : Nat) (p1 : Y4) (a2 : Y7) (out5 : Y4) (op6 : Int), zz24_R3 N n (zz24_E3 kX kO) p1 a2 out5 op6 = zz24_l3 N (zz24_X3 kX) n p1 a2 out5 op6
  | 0, _, _, _, _ => rfl
  | m + 1, p1, a2, out5, op6 => by
    have hrec : zz24_R3 N m (zz24_E3 kX kO) = (zz24_l3 N (zz24_X3 kX) m) := (funext fun p1 => (funext fun a2 => (funext fun out5 => (funext fun op6 => zz24_iter3 N kX kO m p1 a2 out5 op6))))
    refine (zz24_step3 N m kX kO p1 a2 out5 op6).trans ?_
    rw [(funext fun p1 => (funext fun a2 => (funext fun out5 => (funext fun op6 => (funext fun at7 => zz24_in6 N m kX kO (zz24_l3 N (zz24_X3 kX) m) hrec p1 a2 out5 op6 at7)))))]
    rfl
noncomputable abbrev zz24_K3 (N : Nat) : Ex → St → Z2 := (blockK 0 (seqK ((A_zz24).shape 31) (run (A_zz24) N (codeAt Try.f143 [1, 1, 1])) zz24_z))
noncomputable abbrev zz24_k3 (N : Nat) : St → Z2 := fun st' => run (A_zz24) N (codeAt Try.f143 [1, 1, 1]) st' zz24_z
theorem zz24_after3 (N : Nat) (out5 : Y4) : zz24_X3 (zz24_k3 N) out5 = zz24_a3 out5 := by kernel_rfl
theorem zz24_in3 (N : Nat) (p1 : Y4) (a2 : Y7) (out5 : Y4) (op6 : Int) : zz24_R3 N N (zz24_K3 N) p1 a2 out5 op6 = zz24_F3 N p1 a2 out5 op6 :=
  have h : zz24_X3 (zz24_k3 N) = (zz24_a3) := (funext fun out5 => zz24_after3 N out5)
  ((iter_ex (fun st => by kernel_rfl) (fun st => by kernel_rfl)).trans (zz24_iter3 N (zz24_k3 N) (fun j st => (zz24_K3 N) (.exit j) st) N p1 a2 out5 op6)).trans (congrArg (fun k => zz24_l3 N k N p1 a2 out5 op6) h)
theorem run0_zz24 (N : Nat) (x : (S_zz24).a.den) : runF (A_zz24) N Try.f143 S_zz24 x = (zz24_s (zz24_R3 N N (zz24_K3 N)) x.1 x.2.1) := by kernel_rfl
theorem run_zz24 (N : Nat) (x : (S_zz24).a.den) : runF (A_zz24) N Try.f143 S_zz24 x = zz24 N x.1 x.2.1 := by
  refine (run0_zz24 N x).trans ?_
  rw [(funext fun p1 => (funext fun a2 => (funext fun out5 => (funext fun op6 => zz24_in3 N p1 a2 out5 op6))))]
  rfl
theorem fn_zz24 : FnOk Try.prog 143 := ⟨_, Try.func143, by kernel_rfl, by kernel_rfl⟩
theorem good_zz24 : Gx.Good Try.prog 143 S_zz24 := good_of_run Try.func143 (of_decide_eq_true (by kernel_rfl)) fun x r h => ⟨A_zz24, big, mkCfg_ok tabOk, mkCfg_sigs (show SigsOk Try.prog [(135, S_zz21), (152, S_zz22), (153, S_zz23), (134, S_zz20)] from ⟨⟨fn_zz21, good_zz21⟩, ⟨fn_zz22, good_zz22⟩, ⟨fn_zz23, good_zz23⟩, ⟨fn_zz20, good_zz20⟩, trivial⟩), (run_zz24 big x).trans h⟩

/-! zz25 -/
def zz25_b2 (rec : Y4 → Y7 → Int → Z2) (k : Y4 → Z2) (p1 : Y4) (a2 : Y7) (n5 : Int) : Z2 :=
  cond (decide (n5 < a2.1))
  ((zz24 big a2 p1).bind fun rq1 =>
  rec rq1.1 a2 (IntKind.i64.wrap (n5 + (1 : Int))))
  (k p1)
def zz25_a2 (p1 : Y4) : Z2 :=
  some (p1, (()))
def zz25_s (L2 : Y4 → Y7 → Int → Z2) (a_0 : Y7) (p_1 : Y4) : Z2 :=
  L2 p_1 a_0 (0 : Int)
def zz25_l2 (N : Nat) (k : Y4 → Z2) : Nat → Y4 → Y7 → Int → Z2
  | 0, _, _, _ => none
  | m + 1, p1, a2, n5 => zz25_b2 (zz25_l2 N k m) k p1 a2 n5
def zz25_F2 (N : Nat) (p1 : Y4) (a2 : Y7) (n5 : Int) : Z2 := zz25_l2 N (zz25_a2) N p1 a2 n5
def zz25 (N : Nat) (a_0 : Y7) (p_1 : Y4) : Z2 := zz25_s (zz25_F2 N) a_0 p_1
def S_zz25 : Sig := { a := (.pair (.pair I (.pair (.sl (.pair I (.pair (.sl I) .unit))) .unit)) (.pair (.sl I) .unit)), md := [0, 0], mf := [], m := .unit, r := (.sl I), rf := .i, f := fun x => zz25 big x.1 x.2.1 }
def A_zz25 : Cfg := mkCfg tab [(143, S_zz24)] [(4, [.drop, .as (.sl I) .i, .as (.ptr (.pair I (.pair (.sl (.pair I (.pair (.sl I) .unit))) .unit))) (.o .i), .drop, .drop, .as I .i]), (11, [.drop, .as (.sl I) .i])]
noncomputable def zz25_R2 (N n : Nat) (K : Ex → St → Z2) (p1 : Y4) (a2 : Y7) (n5 : Int) : Z2 := iter ((A_zz25).shape 4) (run (A_zz25) N (codeAt Try.f133 [1, 0, 1, 0, 0])) n ([.u, .val (.sl I) .i p1, .val (.ptr (.pair I (.pair (.sl (.pair I (.pair (.sl I) .unit))) .unit))) (.o .i) a2, .u, .u, .val I .i n5] ++ List.replicate 10 .u) K
noncomputable abbrev zz25_z : Ex → St → Z2 := finish (A_zz25) S_zz25 Try.f133.results.toList
noncomputable abbrev zz25_X2 (kX : St → Z2) : Y4 → Z2 := fun (p1 : Y4) => kX ([.u, .val (.sl I) .i p1] ++ List.replicate 14 .u)
noncomputable abbrev zz25_E2 (kX : St → Z2) (kO : Nat → St → Z2) : Ex → St → Z2 := exK zz25_z 0 ((A_zz25).shape 11) kX kO
theorem zz25_step2 (N m : Nat) (kX : St → Z2) (kO : Nat → St → Z2) (p1 : Y4) (a2 : Y7) (n5 : Int) : zz25_R2 N (m + 1) (zz25_E2 kX kO) p1 a2 n5 = zz25_b2 (zz25_R2 N m (zz25_E2 kX kO)) (zz25_X2 kX) p1 a2 n5 := by kernel_rfl
theorem zz25_iter2 (N : Nat) (kX : St → Z2) (kO : Nat → St → Z2) : ∀ (n : Nat) (p1 : Y4) (a2 : Y7) (n5 : Int), zz25_R2 N n (zz25_E2 kX kO) p1 a2 n5 = zz25_l2 N (zz25_X2 kX) n p1 a2 n5
  | 0, _, _, _ => rfl
  | m + 1, p1, a2, n5 => by
    have hrec : zz25_R2 N m (zz25_E2 kX kO) = (zz25_l2 N (zz25_X2 kX) m) := (funext fun p1 => (funext fun a2 => (funext fun n5 => zz25_iter2 N kX kO m p1 a2 n5)))
    refine (zz25_step2 N m kX kO p1 a2 n5).trans ?_
    rw [hrec]
    rfl
noncomputable abbrev zz25_K2 (N : Nat) : Ex → St → Z2 := (blockK 0 (seqK ((A_zz25).shape 11) (run (A_zz25) N (codeAt Try.f133 [1, 1])) zz25_z))
noncomputable abbrev zz25_k2 (N : Nat) : St → Z2 := fun st' => run (A_zz25) N (codeAt Try.f133 [1, 1]) st' zz25_z
theorem zz25_after2 (N : Nat) (p1 : Y4) : zz25_X2 (zz25_k2 N) p1 = zz25_a2 p1 := by kernel_rfl
theorem zz25_in2 (N : Nat) (p1 : Y4) (a2 : Y7) (n5 : Int) : zz25_R2 N N (zz25_K2 N) p1 a2 n5 = zz25_F2 N p1 a2 n5 :=
  have h : zz25_X2 (zz25_k2 N) = (zz25_a2) := (funext fun p1 => zz25_after2 N p1)
  ((iter_ex (fun st => by kernel_rfl) (fun st => by kernel_rfl)).trans (zz25_iter2 N (zz25_k2 N) (fun j st => (zz25_K2 N) (.exit j) st) N p1 a2 n5)).trans (congrArg (fun k => zz25_l2 N k N p1 a2 n5) h)
theorem run0_zz25 (N : Nat) (x : (S_zz25).a.den) : runF (A_zz25) N Try.f133 S_zz25 x = (zz25_s (zz25_R2 N N (zz25_K2 N)) x.1 x.2.1) := by kernel_rfl
theorem run_zz25 (N : Nat) (x : (S_zz25).a.den) : runF (A_zz25) N Try.f133 S_zz25 x = zz25 N x.1 x.2.1 := by
  refine (run0_zz25 N x).trans ?_
  rw [(funext fun p1 => (funext fun a2 => (funext fun n5 => zz25_in2 N p1 a2 n5)))]
  rfl
theorem fn_zz25 : FnOk Try.prog 133 := ⟨_, Try.func133, by kernel_rfl, by kernel_rfl⟩
theorem good_zz25 : Gx.Good Try.prog 133 S_zz25 := good_of_run Try.func133 (of_decide_eq_true (by kernel_rfl)) fun x r h => ⟨A_zz25, big, mkCfg_ok tabOk, mkCfg_sigs (show SigsOk Try.prog [(143, S_zz24)] from ⟨⟨fn_zz24, good_zz24⟩, trivial⟩), (run_zz25 big x).trans h⟩

/-! zz26 -/
def zz26_s (a_0 : Y7) (x_1 y_2 : Int) : Z2 :=
  (zz17 big a_0.1).bind fun rq1 =>
  (zz20 big rq1.1 x_1 y_2).bind fun rq2 =>
  (zz25 big a_0 rq2.1).bind fun rq3 =>
  some (rq3.1, (()))
def zz26 (a_0 : Y7) (x_1 y_2 : Int) : Z2 := zz26_s a_0 x_1 y_2
def S_zz26 : Sig := { a := (.pair (.pair I (.pair (.sl (.pair I (.pair (.sl I) .unit))) .unit)) (.pair I (.pair I .unit))), md := [0, 0, 0], mf := [], m := .unit, r := (.sl I), rf := .i, f := fun x => zz26 x.1 x.2.1 x.2.2.1 }
def A_zz26 : Cfg := mkCfg tab [(113, S_zz17), (134, S_zz20), (133, S_zz25)] []
theorem run_zz26 (N : Nat) (x : (S_zz26).a.den) : runF (A_zz26) N Try.f112 S_zz26 x = zz26 x.1 x.2.1 x.2.2.1 := by kernel_rfl
theorem fn_zz26 : FnOk Try.prog 112 := ⟨_, Try.func112, by kernel_rfl, by kernel_rfl⟩
theorem good_zz26 : Gx.Good Try.prog 112 S_zz26 := good_of_run Try.func112 (of_decide_eq_true (by kernel_rfl)) fun x r h => ⟨A_zz26, big, mkCfg_ok tabOk, mkCfg_sigs (show SigsOk Try.prog [(113, S_zz17), (134, S_zz20), (133, S_zz25)] from ⟨⟨fn_zz17, good_zz17⟩, ⟨fn_zz20, good_zz20⟩, ⟨fn_zz25, good_zz25⟩, trivial⟩), (run_zz26 big x).trans h⟩

/-! zz27 -/
def zz27_b3 (rec : Y4 → Int → Int → Z3) (k : Int → Z3) (p0 : Y4) (n3 x4 : Int) : Z3 :=
  cond (decide (x4 < (p0.length : Int)))
  ((atI p0 x4).bind fun xq1 =>
  cond (decide (xq1 = x4))
  (rec p0 (IntKind.i64.wrap (n3 + (1 : Int))) (IntKind.i64.wrap (x4 + (1 : Int))))
  (rec p0 n3 (IntKind.i64.wrap (x4 + (1 : Int)))))
  (k n3)
def zz27_a3 (n3 : Int) : Z3 :=
  some (n3, (()))
def zz27_s (L3 : Y4 → Int → Int → Z3) (p_0 : Y4) : Z3 :=
  L3 p_0 (0 : Int) (0 : Int)
def zz27_l3 (N : Nat) (k : Int → Z3) : Nat → Y4 → Int → Int → Z3
  | 0, _, _, _ => none
  | m + 1, p0, n3, x4 => zz27_b3 (zz27_l3 N k m) k p0 n3 x4
def zz27_F3 (N : Nat) (p0 : Y4) (n3 x4 : Int) : Z3 := zz27_l3 N (zz27_a3) N p0 n3 x4
def zz27 (N : Nat) (p_0 : Y4) : Z3 := zz27_s (zz27_F3 N) p_0
def S_zz27 : Sig := { a := (.pair (.sl I) .unit), md := [0], mf := [], m := .unit, r := I, rf := .i, f := fun x => zz27 big x.1 }
def A_zz27 : Cfg := mkCfg tab [] [(6, [.as (.sl I) .i, .drop, .drop, .as I .i, .as I .i]), (15, [.drop, .drop, .drop, .as I .i])]
noncomputable def zz27_R3 (N n : Nat) (K : Ex → St → Z3) (p0 : Y4) (n3 x4 : Int) : Z3 := iter ((A_zz27).shape 6) (run (A_zz27) N (codeAt Try.f131 [1, 1, 0, 1, 0, 0])) n ([.val (.sl I) .i p0, .u, .u, .val I .i n3, .val I .i x4] ++ List.replicate 15 .u) K
noncomputable abbrev zz27_z : Ex → St → Z3 := finish (A_zz27) S_zz27 Try.f131.results.toList
noncomputable abbrev zz27_X3 (kX : St → Z3) : Int → Z3 := fun (n3 : Int) => kX ([.u, .u, .u, .val I .i n3] ++ List.replicate 16 .u)
noncomputable abbrev zz27_E3 (kX : St → Z3) (kO : Nat → St → Z3) : Ex → St → Z3 := exK zz27_z 0 ((A_zz27).shape 15) kX kO
theorem zz27_step3 (N m : Nat) (kX : St → Z3) (kO : Nat → St → Z3) (p0 : Y4) (n3 x4 : Int) : zz27_R3 N (m + 1) (zz27_E3 kX kO) p0 n3 x4 = zz27_b3 (zz27_R3 N m (zz27_E3 kX kO)) (zz27_X3 kX) p0 n3 x4 := by kernel_rfl
theorem zz27_iter3 (N : Nat) (kX : St → Z3) (kO : Nat → St → Z3) : ∀ (n : Nat) (p0 : Y4) (n3 x4 : Int), zz27_R3 N n (zz27_E3 kX kO) p0 n3 x4 = zz27_l3 N (zz27_X3 kX) n p0 n3 x4
  | 0, _, _, _ => rfl
  | m + 1, p0, n3, x4 => by
    have hrec : zz27_R3 N m (zz27_E3 kX kO) = (zz27_l3 N (zz27_X3 kX) m) := (funext fun p0 => (funext fun n3 => (funext fun x4 => zz27_iter3 N kX kO m p0 n3 x4)))
    refine (zz27_step3 N m kX kO p0 n3 x4).trans ?_
    rw [hrec]
    rfl
noncomputable abbrev zz27_K3 (N : Nat) : Ex → St → Z3 := (blockK 0 (seqK ((A_zz27).shape 15) (run (A_zz27) N (codeAt Try.f131 [1, 1, 1])) zz27_z))
noncomputable abbrev zz27_k3 (N : Nat) : St → Z3 := fun st' => run (A_zz27) N (codeAt Try.f131 [1, 1, 1]) st' zz27_z
theorem zz27_after3 (N : Nat) (n3 : Int) : zz27_X3 (zz27_k3 N) n3 = zz27_a3 n3 := by kernel_rfl
theorem zz27_in3 (N : Nat) (p0 : Y4) (n3 x4 : Int) : zz27_R3 N N (zz27_K3 N) p0 n3 x4 = zz27_F3 N p0 n3 x4 :=
  have h : zz27_X3 (zz27_k3 N) = (zz27_a3) := (funext fun n3 => zz27_after3 N n3)
  ((iter_ex (fun st => by kernel_rfl) (fun st => by kernel_rfl)).trans (zz27_iter3 N (zz27_k3 N) (fun j st => (zz27_K3 N) (.exit j) st) N p0 n3 x4)).trans (congrArg (fun k => zz27_l3 N k N p0 n3 x4) h)
theorem run0_zz27 (N : Nat) (x : (S_zz27).a.den) : runF (A_zz27) N Try.f131 S_zz27 x = (zz27_s (zz27_R3 N N (zz27_K3 N)) x.1) := by kernel_rfl
theorem run_zz27 (N : Nat) (x : (S_zz27).a.den) : runF (A_zz27) N Try.f131 S_zz27 x = zz27 N x.1 := by
  refine (run0_zz27 N x).trans ?_
  rw [(funext fun p0 => (funext fun n3 => (funext fun x4 => zz27_in3 N p0 n3 x4)))]
  rfl
theorem fn_zz27 : FnOk Try.prog 131 := ⟨_, Try.func131, by kernel_rfl, by kernel_rfl⟩
theorem good_zz27 : Gx.Good Try.prog 131 S_zz27 := good_of_run Try.func131 (of_decide_eq_true (by kernel_rfl)) fun x r h => ⟨A_zz27, big, mkCfg_ok tabOk, mkCfg_sigs (show SigsOk Try.prog [] from trivial), (run_zz27 big x).trans h⟩

/-! zz28 -/
def zz28_b2 (rec : Y4 → Y4 → Int → Z0) (k : Z0) (a0 b1 : Y4) (i5 : Int) : Z0 :=
  cond (decide (i5 < (a0.length : Int)))
  ((atI a0 i5).bind fun xq1 =>
  (atI b1 i5).bind fun xq2 =>
  cond (decide (xq1 ≠ xq2))
  ((atI a0 i5).bind fun xq3 =>
  (atI b1 i5).bind fun xq4 =>
  some (decide (xq3 < xq4), (())))
  (rec a0 b1 (IntKind.i64.wrap (i5 + (1 : Int)))))
  (k)
def zz28_a2 : Z0 :=
  some (false, (()))
def zz28_s (L2 : Y4 → Y4 → Int → Z0) (a_0 b_1 : Y4) : Z0 :=
  L2 a_0 b_1 (0 : Int)
def zz28_l2 (N : Nat) (k : Z0) : Nat → Y4 → Y4 → Int → Z0
  | 0, _, _, _ => none
  | m + 1, a0, b1, i5 => zz28_b2 (zz28_l2 N k m) k a0 b1 i5
def zz28_F2 (N : Nat) (a0 b1 : Y4) (i5 : Int) : Z0 := zz28_l2 N (zz28_a2) N a0 b1 i5
def zz28 (N : Nat) (a_0 b_1 : Y4) : Z0 := zz28_s (zz28_F2 N) a_0 b_1
def S_zz28 : Sig := { a := (.pair (.sl I) (.pair (.sl I) .unit)), md := [0, 0], mf := [], m := .unit, r := .bool, rf := .i, f := fun x => zz28 big x.1 x.2.1 }
def A_zz28 : Cfg := mkCfg tab [] [(4, [.as (.sl I) .i, .as (.sl I) .i, .drop, .drop, .drop, .as I .i]), (13, [])]
noncomputable def zz28_R2 (N n : Nat) (K : Ex → St → Z0) (a0 b1 : Y4) (i5 : Int) : Z0 := iter ((A_zz28).shape 4) (run (A_zz28) N (codeAt Try.f61 [1, 0, 1, 0, 0])) n ([.val (.sl I) .i a0, .val (.sl I) .i b1, .u, .u, .u, .val I .i i5] ++ List.replicate 24 .u) K
noncomputable abbrev zz28_z : Ex → St → Z0 := finish (A_zz28) S_zz28 Try.f61.results.toList
noncomputable abbrev zz28_X2 (kX : St → Z0) : Z0 := kX ([] ++ List.replicate 30 .u)
noncomputable abbrev zz28_E2 (kX : St → Z0) (kO : Nat → St → Z0) : Ex → St → Z0 := exK zz28_z 0 ((A_zz28).shape 13) kX kO
theorem zz28_step2 (N m : Nat) (kX : St → Z0) (kO : Nat → St → Z0) (a0 b1 : Y4) (i5 : Int) : zz28_R2 N (m + 1) (zz28_E2 kX kO) a0 b1 i5 = zz28_b2 (zz28_R2 N m (zz28_E2 kX kO)) (zz28_X2 kX) a0 b1 i5 := by kernel_rfl
theorem zz28_iter2 (N : Nat) (kX : St → Z0) (kO : Nat → St → Z0) : ∀ (n : Nat) (a0 b1 : Y4) (i5 : Int), zz28_R2 N n (zz28_E2 kX kO) a0 b1 i5 = zz28_l2 N (zz28_X2 kX) n a0 b1 i5
  | 0, _, _, _ => rfl
  | m + 1, a0, b1, i5 => by
    have hrec : zz28_R2 N m (zz28_E2 kX kO) = (zz28_l2 N (zz28_X2 kX) m) := (funext fun a0 => (funext fun b1 => (funext fun i5 => zz28_iter2 N kX kO m a0 b1 i5)))
    refine (zz28_step2 N m kX kO a0 b1 i5).trans ?_
    rw [hrec]
    rfl
noncomputable abbrev zz28_K2 (N : Nat) : Ex → St → Z0 := (blockK 0 (seqK ((A_zz28).shape 13) (run (A_zz28) N (codeAt Try.f61 [1, 1])) zz28_z))
noncomputable abbrev zz28_k2 (N : Nat) : St → Z0 := fun st' => run (A_zz28) N (codeAt Try.f61 [1, 1]) st' zz28_z
theorem zz28_after2 (N : Nat) : zz28_X2 (zz28_k2 N) = zz28_a2 := by kernel_rfl
theorem zz28_in2 (N : Nat) (a0 b1 : Y4) (i5 : Int) : zz28_R2 N N (zz28_K2 N) a0 b1 i5 = zz28_F2 N a0 b1 i5 :=
  have h : zz28_X2 (zz28_k2 N) = (zz28_a2) := zz28_after2 N
  ((iter_ex (fun st => by kernel_rfl) (fun st => by kernel_rfl)).trans (zz28_iter2 N (zz28_k2 N) (fun j st => (zz28_K2 N) (.exit j) st) N a0 b1 i5)).trans (congrArg (fun k => zz28_l2 N k N a0 b1 i5) h)
theorem run0_zz28 (N : Nat) (x : (S_zz28).a.den) : runF (A_zz28) N Try.f61 S_zz28 x = (zz28_s (zz28_R2 N N (zz28_K2 N)) x.1 x.2.1) := by kernel_rfl
theorem run_zz28 (N : Nat) (x : (S_zz28).a.den) : runF (A_zz28) N Try.f61 S_zz28 x = zz28 N x.1 x.2.1 := by
  refine (run0_zz28 N x).trans ?_
  rw [(funext fun a0 => (funext fun b1 => (funext fun i5 => zz28_in2 N a0 b1 i5)))]
  rfl
theorem fn_zz28 : FnOk Try.prog 61 := ⟨_, Try.func61, by kernel_rfl, by kernel_rfl⟩
theorem good_zz28 : Gx.Good Try.prog 61 S_zz28 := good_of_run Try.func61 (of_decide_eq_true (by kernel_rfl)) fun x r h => ⟨A_zz28, big, mkCfg_ok tabOk, mkCfg_sigs (show SigsOk Try.prog [] from trivial), (run_zz28 big x).trans h⟩

/-! zz29 -/
def zz29_b4 (rec : Y4 → Y4 → Int → Z0) (k : Z0) (a0 b1 : Y4) (i5 : Int) : Z0 :=
  cond (decide (i5 < (a0.length : Int)))
  ((atI a0 i5).bind fun xq1 =>
  (atI b1 i5).bind fun xq2 =>
  cond (decide (xq1 ≠ xq2))
  (some (false, (())))
  (rec a0 b1 (IntKind.i64.wrap (i5 + (1 : Int)))))
  (k)
def zz29_a4 : Z0 :=
  some (true, (()))
def zz29_s (L4 : Y4 → Y4 → Int → Z0) (a_0 b_1 : Y4) : Z0 :=
  cond (decide ((a_0.length : Int) ≠ (b_1.length : Int)))
  (some (false, (())))
  (L4 a_0 b_1 (0 : Int))
def zz29_l4 (N : Nat) (k : Z0) : Nat → Y4 → Y4 → Int → Z0
  | 0, _, _, _ => none
  | m + 1, a0, b1, i5 => zz29_b4 (zz29_l4 N k m) k a0 b1 i5
def zz29_F4 (N : Nat) (a0 b1 : Y4) (i5 : Int) : Z0 := zz29_l4 N (zz29_a4) N a0 b1 i5
def zz29 (N : Nat) (a_0 b_1 : Y4) : Z0 := zz29_s (zz29_F4 N) a_0 b_1
def S_zz29 : Sig := { a := (.pair (.sl I) (.pair (.sl I) .unit)), md := [0, 0], mf := [], m := .unit, r := .bool, rf := .i, f := fun x => zz29 big x.1 x.2.1 }
def A_zz29 : Cfg := mkCfg tab [] [(8, [.as (.sl I) .i, .as (.sl I) .i, .drop, .drop, .drop, .as I .i]), (17, [])]
noncomputable def zz29_R4 (N n : Nat) (K : Ex → St → Z0) (a0 b1 : Y4) (i5 : Int) : Z0 := iter ((A_zz29).shape 8) (run (A_zz29) N (codeAt Try.f132 [1, 1, 0, 1, 0, 0])) n ([.val (.sl I) .i a0, .val (.sl I) .i b1, .u, .u, .u, .val I .i i5] ++ List.replicate 20 .u) K
noncomputable abbrev zz29_z : Ex → St → Z0 := finish (A_zz29) S_zz29 Try.f132.results.toList
noncomputable abbrev zz29_X4 (kX : St → Z0) : Z0 := kX ([] ++ List.replicate 26 .u)
noncomputable abbrev zz29_E4 (kX : St → Z0) (kO : Nat → St → Z0) : Ex → St → Z0 := exK zz29_z 0 ((A_zz29).shape 17) kX kO
theorem zz29_step4 (N m : Nat) (kX : St → Z0) (kO : Nat → St → Z0) (a0 b1 : Y4) (i5 : Int) : zz29_R4 N (m + 1) (zz29_E4 kX kO) a0 b1 i5 = zz29_b4 (zz29_R4 N m (zz29_E4 kX kO)) (zz29_X4 kX) a0 b1 i5 := by kernel_rfl
theorem zz29_iter4 (N : Nat) (kX : St → Z0) (kO : Nat → St → Z0) : ∀ (n : Nat) (a0 b1 : Y4) (i5 : Int), zz29_R4 N n (zz29_E4 kX kO) a0 b1 i5 = zz29_l4 N (zz29_X4 kX) n a0 b1 i5
  | 0, _, _, _ => rfl
  | m + 1, a0, b1, i5 => by
    have hrec : zz29_R4 N m (zz29_E4 kX kO) = (zz29_l4 N (zz29_X4 kX) m) := (funext fun a0 => (funext fun b1 => (funext fun i5 => zz29_iter4 N kX kO m a0 b1 i5)))
    refine (zz29_step4 N m kX kO a0 b1 i5).trans ?_
    rw [hrec]
    rfl
noncomputable abbrev zz29_K4 (N : Nat) : Ex → St → Z0 := (blockK 0 (seqK ((A_zz29).shape 17) (run (A_zz29) N (codeAt Try.f132 [1, 1, 1])) zz29_z))
noncomputable abbrev zz29_k4 (N : Nat) : St → Z0 := fun st' => run (A_zz29) N (codeAt Try.f132 [1, 1, 1]) st' zz29_z
theorem zz29_after4 (N : Nat) : zz29_X4 (zz29_k4 N) = zz29_a4 := by kernel_rfl
theorem zz29_in4 (N : Nat) (a0 b1 : Y4) (i5 : Int) : zz29_R4 N N (zz29_K4 N) a0 b1 i5 = zz29_F4 N a0 b1 i5 :=
  have h : zz29_X4 (zz29_k4 N) = (zz29_a4) := zz29_after4 N
  ((iter_ex (fun st => by kernel_rfl) (fun st => by kernel_rfl)).trans (zz29_iter4 N (zz29_k4 N) (fun j st => (zz29_K4 N) (.exit j) st) N a0 b1 i5)).trans (congrArg (fun k => zz29_l4 N k N a0 b1 i5) h)
theorem run0_zz29 (N : Nat) (x : (S_zz29).a.den) : runF (A_zz29) N Try.f132 S_zz29 x = (zz29_s (zz29_R4 N N (zz29_K4 N)) x.1 x.2.1) := by kernel_rfl
theorem run_zz29 (N : Nat) (x : (S_zz29).a.den) : runF (A_zz29) N Try.f132 S_zz29 x = zz29 N x.1 x.2.1 := by
  refine (run0_zz29 N x).trans ?_
  rw [(funext fun a0 => (funext fun b1 => (funext fun i5 => zz29_in4 N a0 b1 i5)))]
  rfl
theorem fn_zz29 : FnOk Try.prog 132 := ⟨_, Try.func132, by kernel_rfl, by kernel_rfl⟩
theorem good_zz29 : Gx.Good Try.prog 132 S_zz29 := good_of_run Try.func132 (of_decide_eq_true (by kernel_rfl)) fun x r h => ⟨A_zz29, big, mkCfg_ok tabOk, mkCfg_sigs (show SigsOk Try.prog [] from trivial), (run_zz29 big x).trans h⟩

/-! zz30 -/
def zz30_b2 (rec k : Y3 → Y4 → Int → Option Y2) (list0 : Y3) (p1 : Y4) (k5 : Int) : Option Y2 :=
  cond (decide (k5 < (list0.length : Int)))
  ((atI list0 k5).bind fun xq1 =>
  (zz27 big xq1).bind fun rq2 =>
  (zz27 big p1).bind fun rq3 =>
  cond (decide (rq3.1 < rq2.1))
  (rec list0 p1 (IntKind.i64.wrap (k5 + (1 : Int))))
  ((atI list0 k5).bind fun xq4 =>
  (zz27 big xq4).bind fun rq5 =>
  (zz27 big p1).bind fun rq6 =>
  cond (decide (rq5.1 = rq6.1))
  ((atI list0 k5).bind fun xq7 =>
  (zz28 big xq7 p1).bind fun rq8 =>
  cond rq8.1
  (rec list0 p1 (IntKind.i64.wrap (k5 + (1 : Int))))
  (k list0 p1 k5))
  (k list0 p1 k5)))
  (k list0 p1 k5)
def zz30_a2 (list0 : Y3) (p1 : Y4) (k5 : Int) : Option Y2 :=
  cond (decide (k5 < (list0.length : Int)))
  ((atI list0 k5).bind fun xq9 =>
  (zz29 big xq9 p1).bind fun rq10 =>
  cond rq10.1
  (some (list0, (())))
  ((slI list0 0 k5).bind fun xq11 =>
  (appI [] xq11).bind fun xq12 =>
  (appI xq12 [p1]).bind fun xq13 =>
  (slI list0 k5 list0.length).bind fun xq14 =>
  (appI xq13 xq14).bind fun xq15 =>
  some (xq15, (()))))
  ((slI list0 0 k5).bind fun xq16 =>
  (appI [] xq16).bind fun xq17 =>
  (appI xq17 [p1]).bind fun xq18 =>
  (slI list0 k5 list0.length).bind fun xq19 =>
  (appI xq18 xq19).bind fun xq20 =>
  some (xq20, (())))
def zz30_s (L2 : Y3 → Y4 → Int → Option Y2) (list_0 : Y3) (p_1 : Y4) : Option Y2 :=
  L2 list_0 p_1 (0 : Int)
def zz30_l2 (N : Nat) (k : Y3 → Y4 → Int → Option Y2) : Nat → Y3 → Y4 → Int → Option Y2
  | 0, _, _, _ => none
  | m + 1, list0, p1, k5 => zz30_b2 (zz30_l2 N k m) k list0 p1 k5
def zz30_F2 (N : Nat) (list0 : Y3) (p1 : Y4) (k5 : Int) : Option Y2 := zz30_l2 N (zz30_a2) N list0 p1 k5
def zz30 (N : Nat) (list_0 : Y3) (p_1 : Y4) : Option Y2 := zz30_s (zz30_F2 N) list_0 p_1
def S_zz30 : Sig := { a := (.pair (.sl (.sl I)) (.pair (.sl I) .unit)), md := [0, 0], mf := [], m := .unit, r := (.sl (.sl I)), rf := .i, f := fun x => zz30 big x.1 x.2.1 }
def A_zz30 : Cfg := mkCfg tab [(131, S_zz27), (61, S_zz28), (132, S_zz29)] [(4, [.as (.sl (.sl I)) .i, .as (.sl I) .i, .drop, .drop, .drop, .as I .i]), (9, [.as (.sl (.sl I)) .i, .as (.sl I) .i, .drop, .drop, .drop, .as I .i])]
noncomputable def zz30_R2 (N n : Nat) (K : Ex → St → Option Y2) (list0 : Y3) (p1 : Y4) (k5 : Int) : Option Y2 := iter ((A_zz30).shape 4) (run (A_zz30) N (codeAt Try.f111 [1, 1, 0, 0, 0])) n ([.val (.sl (.sl I)) .i list0, .val (.sl I) .i p1, .u, .u, .u, .val I .i k5] ++ List.replicate 59 .u) K
noncomputable abbrev zz30_z : Ex → St → Option Y2 := finish (A_zz30) S_zz30 Try.f111.results.toList
noncomputable abbrev zz30_X2 (kX : St → Option Y2) : Y3 → Y4 → Int → Option Y2 := fun (list0 : Y3) (p1 : Y4) (k5 : Int) => kX ([.val (.sl (.sl I)) .i list0, .val (.sl I) .i p1, .u, .u, .u, .val I .i k5] ++ List.replicate 59 .u)
noncomputable abbrev zz30_E2 (kX : St → Option Y2) (kO : Nat → St → Option Y2) : Ex → St → Option Y2 := exK zz30_z 0 ((A_zz30).shape 9) kX kO
theorem zz30_step2 (N m : Nat) (kX : St → Option Y2) (kO : Nat → St → Option Y2) (list0 : Y3) (p1 : Y4) (k5 : Int) : zz30_R2 N (m + 1) (zz30_E2 kX kO) list0 p1 k5 = zz30_b2 (zz30_R2 N m (zz30_E2 kX kO)) (zz30_X2 kX) list0 p1 k5 := by kernel_rfl
theorem zz30_iter2 (N : Nat) (kX : St → Option Y2) (kO : Nat → St → Option Y2) : ∀ (n : Nat) (list0 : Y3) (p1 : Y4) (k5 : Int), zz30_R2 N n (zz30_E2 kX kO) list0 p1 k5 = zz30_l2 N (zz30_X2 kX) n list0 p1 k5
  | 0, _, _, _ => rfl
  | m + 1, list0, p1, k5 => by
    have hrec : zz30_R2 N m (zz30_E2 kX kO) = (zz30_l2 N (zz30_X2 kX) m) := (funext fun list0 => (funext fun p1 => (funext fun k5 => zz30_iter2 N kX kO m list0 p1 k5)))
    refine (zz30_step2 N m kX kO list0 p1 k5).trans ?_
    rw [hrec]
    rfl
noncomputable abbrev zz30_K2 (N : Nat) : Ex → St → Option Y2 := (blockK 0 (seqK ((A_zz30).shape 9) (run (A_zz30) N (codeAt Try.f111 [1, 1, 1])) zz30_z))
noncomputable abbrev zz30_k2 (N : Nat) : St → Option Y2 := fun st' => run (A_zz30) N (codeAt Try.f111 [1, 1, 1]) st' zz30_z
theorem zz30_after2 (N : Nat) (list0 : Y3) (p1 : Y4) (k5 : Int) : zz30_X2 (zz30_k2 N) list0 p1 k5 = zz30_a2 list0 p1 k5 := by kernel_rfl
theorem zz30_in2 (N : Nat) (list0 : Y3) (p1 : Y4) (k5 : Int) : zz30_R2 N N (zz30_K2 N) list0 p1 k5 = zz30_F2 N list0 p1 k5 :=
  have h : zz30_X2 (zz30_k2 N) = (zz30_a2) := (funext fun list0 => (funext fun p1 => (funext fun k5 => zz30_after2 N list0 p1 k5)))
  ((iter_ex (fun st => by kernel_rfl) (fun st => by kernel_rfl)).trans (zz30_iter2 N (zz30_k2 N) (fun j st => (zz30_K2 N) (.exit j) st) N list0 p1 k5)).trans (congrArg (fun k => zz30_l2 N k N list0 p1 k5) h)
theorem run0_zz30 (N : Nat) (x : (S_zz30).a.den) : runF (A_zz30) N Try.f111 S_zz30 x = (zz30_s (zz30_R2 N N (zz30_K2 N)) x.1 x.2.1) := by kernel_rfl
theorem run_zz30 (N : Nat) (x : (S_zz30).a.den) : runF (A_zz30) N Try.f111 S_zz30 x = zz30 N x.1 x.2.1 := by
  refine (run0_zz30 N x).trans ?_
  rw [(funext fun list0 => (funext fun p1 => (funext fun k5 => zz30_in2 N list0 p1 k5)))]
  rfl
theorem fn_zz30 : FnOk Try.prog 111 := ⟨_, Try.func111, by kernel_rfl, by kernel_rfl⟩
theorem good_zz30 : Gx.Good Try.prog 111 S_zz30 := good_of_run Try.func111 (of_decide_eq_true (by kernel_rfl)) fun x r h => ⟨A_zz30, big, mkCfg_ok tabOk, mkCfg_sigs (show SigsOk Try.prog [(131, S_zz27), (61, S_zz28), (132, S_zz29)] from ⟨⟨fn_zz27, good_zz27⟩, ⟨fn_zz28, good_zz28⟩, ⟨fn_zz29, good_zz29⟩, trivial⟩), (run_zz30 big x).trans h⟩

/-! zz31 -/
def zz31_b3 (rec : Y4 → Y4 → Int → Z2) (k : Y4 → Z2) (q1 out5 : Y4) (x6 : Int) : Z2 :=
  cond (decide (x6 < (q1.length : Int)))
  ((atI q1 x6).bind fun xq2 =>
  (zz20 big out5 x6 xq2).bind fun rq3 =>
  rec q1 rq3.1 (IntKind.i64.wrap (x6 + (1 : Int))))
  (k out5)
def zz31_a3 (out5 : Y4) : Z2 :=
  some (out5, (()))
def zz31_s (L3 : Y4 → Y4 → Int → Z2) (p_0 q_1 : Y4) : Z2 :=
  (zz21 p_0).bind fun rq1 =>
  L3 q_1 rq1.1 (0 : Int)
def zz31_l3 (N : Nat) (k : Y4 → Z2) : Nat → Y4 → Y4 → Int → Z2
  | 0, _, _, _ => none
  | m + 1, q1, out5, x6 => zz31_b3 (zz31_l3 N k m) k q1 out5 x6
def zz31_F3 (N : Nat) (q1 out5 : Y4) (x6 : Int) : Z2 := zz31_l3 N (zz31_a3) N q1 out5 x6
def zz31 (N : Nat) (p_0 q_1 : Y4) : Z2 := zz31_s (zz31_F3 N) p_0 q_1
def S_zz31 : Sig := { a := (.pair (.sl I) (.pair (.sl I) .unit)), md := [0, 0], mf := [], m := .unit, r := (.sl I), rf := (.o .i), f := fun x => zz31 big x.1 x.2.1 }
def A_zz31 : Cfg := mkCfg tab [(135, S_zz21), (134, S_zz20)] [(6, [.drop, .as (.sl I) .i, .drop, .drop, .drop, .as (.sl I) (.o .i), .as I .i]), (13, [.drop, .drop, .drop, .drop, .drop, .as (.sl I) (.o .i)])]
noncomputable def zz31_R3 (N n : Nat) (K : Ex → St → Z2) (q1 out5 : Y4) (x6 : Int) : Z2 := iter ((A_zz31).shape 6) (run (A_zz31) N (codeAt Try.f114 [1, 1, 0, 1, 0, 0])) n ([.u, .val (.sl I) .i q1, .u, .u, .u, .val (.sl I) (.o .i) out5, .val I .i x6] ++ List.replicate 16 .u) K
noncomputable abbrev zz31_z : Ex → St → Z2 := finish (A_zz31) S_zz31 Try.f114.results.toList
noncomputable abbrev zz31_X3 (kX : St → Z2) : Y4 → Z2 := fun (out5 : Y4) => kX ([.u, .u, .u, .u, .u, .val (.sl I) (.o .i) out5] ++ List.replicate 17 .u)
noncomputable abbrev zz31_E3 (kX : St → Z2) (kO : Nat → St → Z2) : Ex → St → Z2 := exK zz31_z 0 ((A_zz31).shape 13) kX kO
theorem zz31_step3 (N m : Nat) (kX : St → Z2) (kO : Nat → St → Z2) (q1 out5 : Y4) (x6 : Int) : zz31_R3 N (m + 1) (zz31_E3 kX kO) q1 out5 x6 = zz31_b3 (zz31_R3 N m (zz31_E3 kX kO)) (zz31_X3 kX) q1 out5 x6 := by kernel_rfl
theorem zz31_iter3 (N : Nat) (kX : St → Z2) (kO : Nat → St → Z2) : ∀ (n : Nat) (q1 out5 : Y4) (x6 : Int), zz31_R3 N n (zz31_E3 kX kO) q1 out5 x6 = zz31_l3 N (zz31_X3 kX) n q1 out5 x6
  | 0, _, _, _ => rfl
  | m + 1, q1, out5, x6 => by
    have hrec : zz31_R3 N m (zz31_E3 kX kO) = (zz31_l3 N (zz31_X3 kX) m) := (funext fun q1 => (funext fun out5 => (funext fun x6 => zz31_iter3 N kX kO m q1 out5 x6)))
    refine (zz31_step3 N m kX kO q1 out5 x6).trans ?_
    rw [hrec]
    rfl
noncomputable abbrev zz31_K3 (N : Nat) : Ex → St → Z2 := (blockK 0 (seqK ((A_zz31).shape 13) (run (A_zz31) N (codeAt Try.f114 [1, 1, 1])) zz31_z))
noncomputable abbrev zz31_k3 (N : Nat) : St → Z2 := fun st' => run (A_zz31) N (codeAt Try.f114 [1, 1, 1]) st' zz31_z
theorem zz31_after3 (N : Nat) (out5 : Y4) : zz31_X3 (zz31_k3 N) out5 = zz31_a3 out5 := by kernel_rfl
theorem zz31_in3 (N : Nat) (q1 out5 : Y4) (x6 : Int) : zz31_R3 N N (zz31_K3 N) q1 out5 x6 = zz31_F3 N q1 out5 x6 :=
  have h : zz31_X3 (zz31_k3 N) = (zz31_a3) := (funext fun out5 => zz31_after3 N out5)
  ((iter_ex (fun st => by kernel_rfl) (fun st => by kernel_rfl)).trans (zz31_iter3 N (zz31_k3 N) (fun j st => (zz31_K3 N) (.exit j) st) N q1 out5 x6)).trans (congrArg (fun k => zz31_l3 N k N q1 out5 x6) h)
theorem run0_zz31 (N : Nat) (x : (S_zz31).a.den) : runF (A_zz31) N Try.f114 S_zz31 x = (zz31_s (zz31_R3 N N (zz31_K3 N)) x.1 x.2.1) := by kernel_rfl
theorem run_zz31 (N : Nat) (x : (S_zz31).a.den) : runF (A_zz31) N Try.f114 S_zz31 x = zz31 N x.1 x.2.1 := by
  refine (run0_zz31 N x).trans ?_
  rw [(funext fun q1 => (funext fun out5 => (funext fun x6 => zz31_in3 N q1 out5 x6)))]
  rfl
theorem fn_zz31 : FnOk Try.prog 114 := ⟨_, Try.func114, by kernel_rfl, by kernel_rfl⟩
theorem good_zz31 : Gx.Good Try.prog 114 S_zz31 := good_of_run Try.func114 (of_decide_eq_true (by kernel_rfl)) fun x r h => ⟨A_zz31, big, mkCfg_ok tabOk, mkCfg_sigs (show SigsOk Try.prog [(135, S_zz21), (134, S_zz20)] from ⟨⟨fn_zz21, good_zz21⟩, ⟨fn_zz20, good_zz20⟩, trivial⟩), (run_zz31 big x).trans h⟩

/-! zz32 -/
def zz32_b15 (rec : Int → Y3 → Y3 → Y3 → Int → Int → Int → Int → Bool → Option Y2) (k : Int → Y3 → Y3 → Y3 → Int → Int → Int → Bool → Option Y2) (most1 : Int) (principal5 out8 line9 : Y3) (n10 i11 t46 t47 : Int) (t48 : Bool) : Option Y2 :=
  cond (decide (i11 < (principal5.length : Int)))
  (cond (decide ((out8.length : Int) ≤ most1))
  ((atI line9 n10).bind fun _ =>
  (line9[n10.toNat]?).bind fun xq5 =>
  (atI principal5 i11).bind fun xq6 =>
  (zz31 big xq5 xq6).bind fun rq7 =>
  (zz30 big out8 rq7.1).bind fun rq8 =>
  cond (decide ((out8.length : Int) < (rq8.1.length : Int)))
  ((appI line9 [rq7.1]).bind fun xq9 =>
  rec most1 principal5 rq8.1 xq9 n10 (IntKind.i64.wrap (i11 + (1 : Int))) t46 t47 t48)
  (rec most1 principal5 out8 line9 n10 (IntKind.i64.wrap (i11 + (1 : Int))) t46 t47 t48))
  (k most1 principal5 out8 line9 n10 t46 t47 t48))
  (k most1 principal5 out8 line9 n10 t46 t47 t48)
def zz32_a15 (rec : Int → Y3 → Y3 → Y3 → Int → Option Y2) (most1 : Int) (principal5 out8 line9 : Y3) (n10 t46 t47 : Int) (t48 : Bool) : Option Y2 :=
  rec most1 principal5 out8 line9 (IntKind.i64.wrap (n10 + (1 : Int)))
def zz32_b12 (L15 : Int → Y3 → Y3 → Y3 → Int → Int → Int → Int → Bool → Option Y2) (k : Y3 → Option Y2) (most1 : Int) (principal5 out8 line9 : Y3) (n10 : Int) : Option Y2 :=
  cond (decide (n10 < (line9.length : Int)))
  (cond (decide ((out8.length : Int) ≤ most1))
  (L15 most1 principal5 out8 line9 n10 (0 : Int) (out8.length : Int) most1 (decide ((out8.length : Int) ≤ most1)))
  (k out8))
  (k out8)
def zz32_a12 (out8 : Y3) : Option Y2 :=
  some (out8, (()))
def zz32_b6 (rec : Int → Y7 → Y3 → Int → Int → Option Y2) (k : Int → Y7 → Y3 → Int → Option Y2) (most1 : Int) (a2 : Y7) (principal5 : Y3) (x6 y7 : Int) : Option Y2 :=
  cond (decide (y7 < x6))
  ((zz26 a2 x6 y7).bind fun rq3 =>
  (zz30 big principal5 rq3.1).bind fun rq4 =>
  rec most1 a2 rq4.1 x6 (IntKind.i64.wrap (y7 + (1 : Int))))
  (k most1 a2 principal5 x6)
def zz32_a6 (rec : Int → Y7 → Y3 → Int → Option Y2) (most1 : Int) (a2 : Y7) (principal5 : Y3) (x6 : Int) : Option Y2 :=
  rec most1 a2 principal5 (IntKind.i64.wrap (x6 + (1 : Int)))
def zz32_b3 (L6 : Int → Y7 → Y3 → Int → Int → Option Y2) (k : Int → Y7 → Y3 → Option Y2) (most1 : Int) (a2 : Y7) (principal5 : Y3) (x6 : Int) : Option Y2 :=
  cond (decide (x6 < a2.1))
  (L6 most1 a2 principal5 x6 (0 : Int))
  (k most1 a2 principal5)
def zz32_a3 (L12 : Int → Y3 → Y3 → Y3 → Int → Option Y2) (most1 : Int) (a2 : Y7) (principal5 : Y3) : Option Y2 :=
  (zz17 big a2.1).bind fun rq1 =>
  (zz17 big a2.1).bind fun rq2 =>
  L12 most1 principal5 [rq1.1] [rq2.1] (0 : Int)
def zz32_s (L3 : Int → Y7 → Y3 → Int → Option Y2) (a_0 : Y7) (most_1 : Int) : Option Y2 :=
  L3 most_1 a_0 [] (0 : Int)
def zz32_l6 (N : Nat) (k : Int → Y7 → Y3 → Int → Option Y2) : Nat → Int → Y7 → Y3 → Int → Int → Option Y2
  | 0, _, _, _, _, _ => none
  | m + 1, most1, a2, principal5, x6, y7 => zz32_b6 (zz32_l6 N k m) k most1 a2 principal5 x6 y7
def zz32_F6 (N : Nat) (rec : Int → Y7 → Y3 → Int → Option Y2) (k : Int → Y7 → Y3 → Option Y2) (most1 : Int) (a2 : Y7) (principal5 : Y3) (x6 y7 : Int) : Option Y2 := zz32_l6 N (zz32_a6 rec) N most1 a2 principal5 x6 y7
def zz32_l15 (N : Nat) (k : Int → Y3 → Y3 → Y3 → Int → Int → Int → Bool → Option Y2) : Nat → Int → Y3 → Y3 → Y3 → Int → Int → Int → Int → Bool → Option Y2
  | 0, _, _, _, _, _, _, _, _, _ => none
  | m + 1, most1, principal5, out8, line9, n10, i11, t46, t47, t48 => zz32_b15 (zz32_l15 N k m) k most1 principal5 out8 line9 n10 i11 t46 t47 t48
def zz32_F15 (N : Nat) (rec : Int → Y3 → Y3 → Y3 → Int → Option Y2) (k : Y3 → Option Y2) (most1 : Int) (principal5 out8 line9 : Y3) (n10 i11 t46 t47 : Int) (t48 : Bool) : Option Y2 := zz32_l15 N (zz32_a15 rec) N most1 principal5 out8 line9 n10 i11 t46 t47 t48
def zz32_l3 (N : Nat) (k : Int → Y7 → Y3 → Option Y2) : Nat → Int → Y7 → Y3 → Int → Option Y2
  | 0, _, _, _, _ => none
  | m + 1, most1, a2, principal5, x6 => zz32_b3 (zz32_F6 N (zz32_l3 N k m) k) k most1 a2 principal5 x6
def zz32_l12 (N : Nat) (k : Y3 → Option Y2) : Nat → Int → Y3 → Y3 → Y3 → Int → Option Y2
  | 0, _, _, _, _, _ => none
  | m + 1, most1, principal5, out8, line9, n10 => zz32_b12 (zz32_F15 N (zz32_l12 N k m) k) k most1 principal5 out8 line9 n10
def zz32_F12 (N : Nat) (most1 : Int) (principal5 out8 line9 : Y3) (n10 : Int) : Option Y2 := zz32_l12 N (zz32_a12) N most1 principal5 out8 line9 n10
def zz32_F3 (N : Nat) (most1 : Int) (a2 : Y7) (principal5 : Y3) (x6 : Int) : Option Y2 := zz32_l3 N (zz32_a3 (zz32_F12 N)) N most1 a2 principal5 x6
def zz32 (N : Nat) (a_0 : Y7) (most_1 : Int) : Option Y2 := zz32_s (zz32_F3 N) a_0 most_1
def S_zz32 : Sig := { a := (.pair (.pair I (.pair (.sl (.pair I (.pair (.sl I) .unit))) .unit)) (.pair I .unit)), md := [0, 0], mf := [], m := .unit, r := (.sl (.sl I)), rf := .i, f := fun x => zz32 big x.1 x.2.1 }
def A_zz32 : Cfg := mkCfg tab [(113, S_zz17), (112, S_zz26), (111, S_zz30), (114, S_zz31)] [(6, [.drop, .as I .i, .as (.ptr (.pair I (.pair (.sl (.pair I (.pair (.sl I) .unit))) .unit))) (.o .i), .drop, .drop, .as (.sl (.sl I)) .i, .as I .i]), (12, [.drop, .as I .i, .as (.ptr (.pair I (.pair (.sl (.pair I (.pair (.sl I) .unit))) .unit))) (.o .i), .drop, .drop, .as (.sl (.sl I)) .i, .as I .i, .as I .i]), (19, [.drop, .as I .i, .as (.ptr (.pair I (.pair (.sl (.pair I (.pair (.sl I) .unit))) .unit))) (.o .i), .drop, .drop, .as (.sl (.sl I)) .i]), (24, [.drop, .as I .i, .drop, .drop, .drop, .as (.sl (.sl I)) .i, .drop, .drop, .as (.sl (.sl I)) .i, .as (.sl (.sl I)) (.o .i), .as I .i]), (9, [.drop, .as I .i, .as (.ptr (.pair I (.pair (.sl (.pair I (.pair (.sl I) .unit))) .unit))) (.o .i), .drop, .drop, .as (.sl (.sl I)) .i, .as I .i]), (30, [.drop, .as I .i, .drop, .drop, .drop, .as (.sl (.sl I)) .i, .drop, .drop, .as (.sl (.sl I)) .i, .as (.sl (.sl I)) (.o .i), .as I .i, .as I .i, .drop, .drop, .drop, .drop, .drop, .drop, .drop, .drop, .drop, .drop, .drop, .drop, .drop, .drop, .drop, .drop, .drop, .drop, .drop, .drop, .drop, .drop, .drop, .drop, .drop, .drop, .drop, .drop, .drop, .drop, .drop, .drop, .drop, .drop, .as I .i, .as I .i, .as .bool .i]), (45, [.drop, .drop, .drop, .drop, .drop, .drop, .drop, .drop, .as (.sl (.sl I)) .i]), (27, [.drop, .as I .i, .drop, .drop, .drop, .as (.sl (.sl I)) .i, .drop, .drop, .as (.sl (.sl I)) .i, .as (.sl (.sl I)) (.o .i), .as I .i, .drop, .drop, .drop, .drop, .drop, .drop, .drop, .drop, .drop, .drop, .drop, .drop, .drop, .drop, .drop, .drop, .drop, .drop, .drop, .drop, .drop, .drop, .drop, .drop, .drop, .drop, .drop, .drop, .drop, .drop, .drop, .drop, .drop, .drop, .drop, .as I .i, .as I .i, .as .bool .i])]
noncomputable def zz32_R3 (N n : Nat) (K : Ex → St → Option Y2) (most1 : Int) (a2 : Y7) (principal5 : Y3) (x6 : Int) : Option Y2 := iter ((A_zz32).shape 6) (run (A_zz32) N (codeAt Try.f86 [1, 1, 0, 1, 0, 0])) n ([.u, .val I .i most1, .val (.ptr (.pair I (.pair (.sl (.pair I (.pair (.sl I) .unit))) .unit))) (.o .i) a2, .u, .u, .val (.sl (.sl I)) .i principal5, .val I .i x6] ++ List.replicate 80 .u) K
noncomputable def zz32_R6 (N n : Nat) (K : Ex → St → Option Y2) (most1 : Int) (a2 : Y7) (principal5 : Y3) (x6 y7 : Int) : Option Y2 := iter ((A_zz32).shape 12) (run (A_zz32) N (codeAt Try.f86 [1, 1, 0, 1, 0, 0, 1, 0, 0, 1, 0, 0])) n ([.u, .val I .i most1, .val (.ptr (.pair I (.pair (.sl (.pair I (.pair (.sl I) .unit))) .unit))) (.o .i) a2, .u, .u, .val (.sl (.sl I)) .i principal5, .val I .i x6, .val I .i y7] ++ List.replicate 79 .u) K
noncomputable def zz32_R12 (N n : Nat) (K : Ex → St → Option Y2) (most1 : Int) (principal5 out8 line9 : Y3) (n10 : Int) : Option Y2 := iter ((A_zz32).shape 24) (run (A_zz32) N (codeAt Try.f86 [1, 1, 1, 1, 1, 0, 1, 0, 0])) n ([.u, .val I .i most1, .u, .u, .u, .val (.sl (.sl I)) .i principal5, .u, .u, .val (.sl (.sl I)) .i out8, .val (.sl (.sl I)) (.o .i) line9, .val I .i n10] ++ List.replicate 76 .u) K
noncomputable def zz32_R15 (N n : Nat) (K : Ex → St → Option Y2) (most1 : Int) (principal5 out8 line9 : Y3) (n10 i11 t46 t47 : Int) (t48 : Bool) : Option Y2 := iter ((A_zz32).shape 30) (run (A_zz32) N (codeAt Try.f86 [1, 1, 1, 1, 1, 0, 1, 0, 0, 1, 0, 0, 1, 0, 0])) n ([.u, .val I .i most1, .u, .u, .u, .val (.sl (.sl I)) .i principal5, .u, .u, .val (.sl (.sl I)) .i out8, .val (.sl (.sl I)) (.o .i) line9, .val I .i n10, .val I .i i11, .u, .u, .u, .u, .u, .u, .u, .u, .u, .u, .u, .u, .u, .u, .u, .u, .u, .u, .u, .u, .u, .u, .u, .u, .u, .u, .u, .u, .u, .u, .u, .u, .u, .u, .val I .i t46, .val I .i t47, .val .bool .i t48] ++ List.replicate 38 .u) K
noncomputable abbrev zz32_z : Ex → St → Option Y2 := finish (A_zz32) S_zz32 Try.f86.results.toList
noncomputable abbrev zz32_X3 (kX : St → Option Y2) : Int → Y7 → Y3 → Option Y2 := fun (most1 : Int) (a2 : Y7) (principal5 : Y3) => kX ([.u, .val I .i most1, .val (.ptr (.pair I (.pair (.sl (.pair I (.pair (.sl I) .unit))) .unit))) (.o .i) a2, .u, .u, .val (.sl (.sl I)) .i principal5] ++ List.replicate 81 .u)
noncomputable abbrev zz32_E3 (kX : St → Option Y2) (kO : Nat → St → Option Y2) : Ex → St → Option Y2 := exK zz32_z 0 ((A_zz32).shape 19) kX kO
noncomputable abbrev zz32_X6 (kX : St → Option Y2) : Int → Y7 → Y3 → Int → Option Y2 := fun (most1 : Int) (a2 : Y7) (principal5 : Y3) (x6 : Int) => kX ([.u, .val I .i most1, .val (.ptr (.pair I (.pair (.sl (.pair I (.pair (.sl I) .unit))) .unit))) (.o .i) a2, .u, .u, .val (.sl (.sl I)) .i principal5, .val I .i x6] ++ List.replicate 80 .u)
noncomputable abbrev zz32_E6 (kX : St → Option Y2) (kO : Nat → St → Option Y2) : Ex → St → Option Y2 := exK zz32_z 2 ((A_zz32).shape 9) kX kO
noncomputable abbrev zz32_X12 (kX : St → Option Y2) : Y3 → Option Y2 := fun (out8 : Y3) => kX ([.u, .u, .u, .u, .u, .u, .u, .u, .val (.sl (.sl I)) .i out8] ++ List.replicate 78 .u)
noncomputable abbrev zz32_E12 (kX : St → Option Y2) (kO : Nat → St → Option Y2) : Ex → St → Option Y2 := exK zz32_z 4 ((A_zz32).shape 45) kX kO
noncomputable abbrev zz32_X15 (kX : St → Option Y2) : Int → Y3 → Y3 → Y3 → Int → Int → Int → Bool → Option Y2 := fun (most1 : Int) (principal5 out8 line9 : Y3) (n10 t46 t47 : Int) (t48 : Bool) => kX ([.u, .val I .i most1, .u, .u, .u, .val (.sl (.sl I)) .i principal5, .u, .u, .val (.sl (.sl I)) .i out8, .val (.sl (.sl I)) (.o .i) line9, .val I .i n10, .u, .u, .u, .u, .u, .u, .u, .u, .u, .u, .u, .u, .u, .u, .u, .u, .u, .u, .u, .u, .u, .u, .u, .u, .u, .u, .u, .u, .u, .u, .u, .u, .u, .u, .u, .val I .i t46, .val I .i t47, .val .bool .i t48] ++ List.replicate 38 .u)
noncomputable abbrev zz32_E15 (kX : St → Option Y2) (kO : Nat → St → Option Y2) : Ex → St → Option Y2 := exK zz32_z 6 ((A_zz32).shape 27) kX kO
theorem zz32_step6 (N m : Nat) (kX : St → Option Y2) (kO : Nat → St → Option Y2) (most1 : Int) (a2 : Y7) (principal5 : Y3) (x6 y7 : Int) : zz32_R6 N (m + 1) (zz32_E6 kX kO) most1 a2 principal5 x6 y7 = zz32_b6 (zz32_R6 N m (zz32_E6 kX kO)) (zz32_X6 kX) most1 a2 principal5 x6 y7 := by kernel_rfl
theorem zz32_iter6 (N : Nat) (kX : St → Option Y2) (kO : Nat → St → Option Y2) : ∀ (n : Nat) (most1 : Int) (a2 : Y7) (principal5 : Y3) (x6 y7 : Int), zz32_R6 N n (zz32_E6 kX kO) most1 a2 principal5 x6 y7 = zz32_l6 N (zz32_X6 kX) n most1 a2 principal5 x6 y7
  | 0, _, _, _, _, _ => rfl
  | m + 1, most1, a2, principal5, x6, y7 => by
    have hrec : zz32_R6 N m (zz32_E6 kX kO) = (zz32_l6 N (zz32_X6 kX) m) := (funext fun most1 => (funext fun a2 => (funext fun principal5 => (funext fun x6 => (funext fun y7 => zz32_iter6 N kX kO m most1 a2 principal5 x6 y7)))))
    refine (zz32_step6 N m kX kO most1 a2 principal5 x6 y7).trans ?_
    rw [hrec]
    rfl
noncomputable abbrev zz32_K6 (N m : Nat) (kX : St → Option Y2) (kO : Nat → St → Option Y2) : Ex → St → Option Y2 := (blockK 2 (blockK 1 (seqK ((A_zz32).shape 9) (run (A_zz32) N (codeAt Try.f86 [1, 1, 0, 1, 0, 0, 1, 1])) (iterK ((A_zz32).shape 6) (run (A_zz32) N (codeAt Try.f86 [1, 1, 0, 1, 0, 0])) m (zz32_E3 kX kO)))))
noncomputable abbrev zz32_k6 (N m : Nat) (kX : St → Option Y2) (kO : Nat → St → Option Y2) : St → Option Y2 := fun st' => run (A_zz32) N (codeAt Try.f86 [1, 1, 0, 1, 0, 0, 1, 1]) st' (iterK ((A_zz32).shape 6) (run (A_zz32) N (codeAt Try.f86 [1, 1, 0, 1, 0, 0])) m (zz32_E3 kX kO))
theorem zz32_after6 (N m : Nat) (kX : St → Option Y2) (kO : Nat → St → Option Y2) (most1 : Int) (a2 : Y7) (principal5 : Y3) (x6 : Int) : zz32_X6 (zz32_k6 N m kX kO) most1 a2 principal5 x6 = zz32_a6 (zz32_R3 N m (zz32_E3 kX kO)) most1 a2 principal5 x6 := by kernel_rfl
theorem zz32_in6 (N m : Nat) (kX : St → Option Y2) (kO : Nat → St → Option Y2) (recF : Int → Y7 → Y3 → Int → Option Y2) (hrec : zz32_R3 N m (zz32_E3 kX kO) = recF) (most1 : Int) (a2 : Y7) (principal5 : Y3) (x6 y7 : Int) : zz32_R6 N N (zz32_K6 N m kX kO) most1 a2 principal5 x6 y7 = zz32_F6 N recF (zz32_X3 kX) most1 a2 principal5 x6 y7 :=
  have h : zz32_X6 (zz32_k6 N m kX kO) = (zz32_a6 recF) := (funext fun most1 => (funext fun a2 => (funext fun principal5 => (funext fun x6 => (zz32_after6 N m kX kO most1 a2 principal5 x6).trans (by rw [hrec])))))
  ((iter_ex (fun st => by kernel_rfl) (fun st => by kernel_rfl)).trans (zz32_iter6 N (zz32_k6 N m kX kO) (fun j st => (zz32_K6 N m kX kO) (.exit j) st) N most1 a2 principal5 x6 y7)).trans (congrArg (fun k => zz32_l6 N k N most1 a2 principal5 x6 y7) h)
theorem zz32_step3 (N m : Nat) (kX : St → Option Y2) (kO : Nat → St → Option Y2) (most1 : Int) (a2 : Y7) (principal5 : Y3) (x6 : Int) : zz32_R3 N (m + 1) (zz32_E3 kX kO) most1 a2 principal5 x6 = zz32_b3 (zz32_R6 N N (zz32_K6 N m kX kO)) (zz32_X3 kX) most1 a2 principal5 x6 := by kernel_rfl
theorem zz32_iter3 (N : Nat) (kX : St → Option Y2) (kO : Nat → St → Option Y2) : ∀ (n : Nat) (most1 : Int) (a2 : Y7) (principal5 : Y3) (x6 : Int), zz32_R3 N n (zz32_E3 kX kO) most1 a2 principal5 x6 = zz32_l3 N (zz32_X3 kX) n most1 a2 principal5 x6
  | 0, _, _, _, _ => rfl
  | m + 1, most1, a2, principal5, x6 => by
    have hrec : zz32_R3 N m (zz32_E3 kX kO) = (zz32_l3 N (zz32_X3 kX) m) := (funext fun most1 => (funext fun a2 => (funext fun principal5 => (funext fun x6 => zz32_iter3 N kX kO m most1 a2 principal5 x6))))
    refine (zz32_step3 N m kX kO most1 a2 principal5 x6).trans ?_
    rw [(funext fun most1 => (funext fun a2 => (funext fun principal5 => (funext fun x6 => (funext fun y7 => zz32_in6 N m kX kO (zz32_l3 N (zz32_X3 kX) m) hrec most1 a2 principal5 x6 y7)))))]
    rfl
noncomputable abbrev zz32_K3 (N : Nat) : Ex → St → Option Y2 := (blockK 0 (seqK ((A_zz32).shape 19) (run (A_zz32) N (codeAt Try.f86 [1, 1, 1])) zz32_z))
theorem zz32_step15 (N m : Nat) (kX : St → Option Y2) (kO : Nat → St → Option Y2) (most1 : Int) (principal5 out8 line9 : Y3) (n10 i11 t46 t47 : Int) (t48 : Bool) : zz32_R15 N (m + 1) (zz32_E15 kX kO) most1 principal5 out8 line9 n10 i11 t46 t47 t48 = zz32_b15 (zz32_R15 N m (zz32_E15 kX kO)) (zz32_X15 kX) most1 principal5 out8 line9 n10 i11 t46 t47 t48 := by kernel_rfl
theorem zz32_iter15 (N : Nat) (kX : St → Option Y2) (kO : Nat → St → Option Y2) : ∀ (n : Nat) (most1 : Int) (principal5 out8 line9 : Y3) (n10 i11 t46 t47 : Int) (t48 : Bool), zz32_R15 N n (zz32_E15 kX kO) most1 principal5 out8 line9 n10 i11 t46 t47 t48 = zz32_l15 N (zz32_X15 kX) n most1 principal5 out8 line9 n10 i11 t46 t47 t48
  | 0, _, _, _, _, _, _, _, _, _ => rfl
  | m + 1, most1, principal5, out8, line9, n10, i11, t46, t47, t48 => by
    have hrec : zz32_R15 N m (zz32_E15 kX kO) = (zz32_l15 N (zz32_X15 kX) m) := (funext fun most1 => (funext fun principal5 => (funext fun out8 => (funext fun line9 => (funext fun n10 => (funext fun i11 => (funext fun t46 => (funext fun t47 => (funext fun t48 => zz32_iter15 N kX kO m most1 principal5 out8 line9 n10 i11 t46 t47 t48)))))))))
    refine (zz32_step15 N m kX kO most1 principal5 out8 line9 n10 i11 t46 t47 t48).trans ?_
    rw [hrec]
    rfl
noncomputable abbrev zz32_K15 (N m : Nat) (kX : St → Option Y2) (kO : Nat → St → Option Y2) : Ex → St → Option Y2 := (blockK 6 (blockK 5 (seqK ((A_zz32).shape 27) (run (A_zz32) N (codeAt Try.f86 [1, 1, 1, 1, 1, 0, 1, 0, 0, 1, 1])) (iterK ((A_zz32).shape 24) (run (A_zz32) N (codeAt Try.f86 [1, 1, 1, 1, 1, 0, 1, 0, 0])) m (zz32_E12 kX kO)))))
noncomputable abbrev zz32_k15 (N m : Nat) (kX : St → Option Y2) (kO : Nat → St → Option Y2) : St → Option Y2 := fun st' => run (A_zz32) N (codeAt Try.f86 [1, 1, 1, 1, 1, 0, 1, 0, 0, 1, 1]) st' (iterK ((A_zz32).shape 24) (run (A_zz32) N (codeAt Try.f86 [1, 1, 1, 1, 1, 0, 1, 0, 0])) m (zz32_E12 kX kO))
theorem zz32_after15 (N m : Nat) (kX : St → Option Y2) (kO : Nat → St → Option Y2) (most1 : Int) (principal5 out8 line9 : Y3) (n10 t46 t47 : Int) (t48 : Bool) : zz32_X15 (zz32_k15 N m kX kO) most1 principal5 out8 line9 n10 t46 t47 t48 = zz32_a15 (zz32_R12 N m (zz32_E12 kX kO)) most1 principal5 out8 line9 n10 t46 t47 t48 := by kernel_rfl
theorem zz32_in15 (N m : Nat) (kX : St → Option Y2) (kO : Nat → St → Option Y2) (recF : Int → Y3 → Y3 → Y3 → Int → Option Y2) (hrec : zz32_R12 N m (zz32_E12 kX kO) = recF) (most1 : Int) (principal5 out8 line9 : Y3) (n10 i11 t46 t47 : Int) (t48 : Bool) : zz32_R15 N N (zz32_K15 N m kX kO) most1 principal5 out8 line9 n10 i11 t46 t47 t48 = zz32_F15 N recF (zz32_X12 kX) most1 principal5 out8 line9 n10 i11 t46 t47 t48 :=
  have h : zz32_X15 (zz32_k15 N m kX kO) = (zz32_a15 recF) := (funext fun most1 => (funext fun principal5 => (funext fun out8 => (funext fun line9 => (funext fun n10 => (funext fun t46 => (funext fun t47 => (funext fun t48 => (zz32_after15 N m kX kO most1 principal5 out8 line9 n10 t46 t47 t48).trans (by rw [hrec])))))))))
  ((iter_ex (fun st => by kernel_rfl) (fun st => by kernel_rfl)).trans (zz32_iter15 N (zz32_k15 N m kX kO) (fun j st => (zz32_K15 N m kX kO) (.exit j) st) N most1 principal5 out8 line9 n10 i11 t46 t47 t48)).trans (congrArg (fun k => zz32_l15 N k N most1 principal5 out8 line9 n10 i11 t46 t47 t48) h)
theorem zz32_step12 (N m : Nat) (kX : St → Option Y2) (kO : Nat → St → Option Y2) (most1 : Int) (principal5 out8 line9 : Y3) (n10 : Int) : zz32_R12 N (m + 1) (zz32_E12 kX kO) most1 principal5 out8 line9 n10 = zz32_b12 (zz32_R15 N N (zz32_K15 N m kX kO)) (zz32_X12 kX) most1 principal5 out8 line9 n10 := by kernel_rfl
theorem zz32_iter12 (N : Nat) (kX : St → Option Y2) (kO : Nat → St → Option Y2) : ∀ (n : Nat) (most1 : Int) (principal5 out8 line9 : Y3) (n10 : Int), zz32_R12 N n (zz32_E12 kX kO) most1 principal5 out8 line9 n10 = zz32_l12 N (zz32_X12 kX) n most1 principal5 out8 line9 n10
  | 0, _, _, _, _, _ => rfl
  | m + 1, most1, principal5, out8, line9, n10 => by
    have hrec : zz32_R12 N m (zz32_E12 kX kO) = (zz32_l12 N (zz32_X12 kX) m) := (funext fun most1 => (funext fun principal5 => (funext fun out8 => (funext fun line9 => (funext fun n10 => zz32_iter12 N kX kO m most1 principal5 out8 line9 n10)))))
    refine (zz32_step12 N m kX kO most1 principal5 out8 line9 n10).trans ?_
    rw [(funext fun most1 => (funext fun principal5 => (funext fun out8 => (funext fun line9 => (funext fun n10 => (funext fun i11 => (funext fun t46 => (funext fun t47 => (funext fun t48 => zz32_in15 N m kX kO (zz32_l12 N (zz32_X12 kX) m) hrec most1 principal5 out8 line9 n10 i11 t46 t47 t48)))))))))]
    rfl
noncomputable abbrev zz32_K12 (N : Nat) : Ex → St → Option Y2 := (blockK 4 (seqK ((A_zz32).shape 45) (run (A_zz32) N (codeAt Try.f86 [1, 1, 1, 1, 1, 1])) zz32_z))
noncomputable abbrev zz32_k12 (N : Nat) : St → Option Y2 := fun st' => run (A_zz32) N (codeAt Try.f86 [1, 1, 1, 1, 1, 1]) st' zz32_z
theorem zz32_after12 (N : Nat) (out8 : Y3) : zz32_X12 (zz32_k12 N) out8 = zz32_a12 out8 := by kernel_rfl
theorem zz32_in12 (N : Nat) (most1 : Int) (principal5 out8 line9 : Y3) (n10 : Int) : zz32_R12 N N (zz32_K12 N) most1 principal5 out8 line9 n10 = zz32_F12 N most1 principal5 out8 line9 n10 :=
  have h : zz32_X12 (zz32_k12 N) = (zz32_a12) := (funext fun out8 => zz32_after12 N out8)
  ((iter_ex (fun st => by kernel_rfl) (fun st => by kernel_rfl)).trans (zz32_iter12 N (zz32_k12 N) (fun j st => (zz32_K12 N) (.exit j) st) N most1 principal5 out8 line9 n10)).trans (congrArg (fun k => zz32_l12 N k N most1 principal5 out8 line9 n10) h)
noncomputable abbrev zz32_k3 (N : Nat) : St → Option Y2 := fun st' => run (A_zz32) N (codeAt Try.f86 [1, 1, 1]) st' zz32_z
theorem zz32_after3 (N : Nat) (most1 : Int) (a2 : Y7) (principal5 : Y3) : zz32_X3 (zz32_k3 N) most1 a2 principal5 = zz32_a3 (zz32_R12 N N (zz32_K12 N)) most1 a2 principal5 := by kernel_rfl
theorem zz32_in3 (N : Nat) (most1 : Int) (a2 : Y7) (principal5 : Y3) (x6 : Int) : zz32_R3 N N (zz32_K3 N) most1 a2 principal5 x6 = zz32_F3 N most1 a2 principal5 x6 :=
  have h : zz32_X3 (zz32_k3 N) = (zz32_a3 (zz32_F12 N)) := (funext fun most1 => (funext fun a2 => (funext fun principal5 => (zz32_after3 N most1 a2 principal5).trans (by rw [(funext fun most1 => (funext fun principal5 => (funext fun out8 => (funext fun line9 => (funext fun n10 => zz32_in12 N most1 principal5 out8 line9 n10)))))]))))
  ((iter_ex (fun st => by kernel_rfl) (fun st => by kernel_rfl)).trans (zz32_iter3 N (zz32_k3 N) (fun j st => (zz32_K3 N) (.exit j) st) N most1 a2 principal5 x6)).trans (congrArg (fun k => zz32_l3 N k N most1 a2 principal5 x6) h)
theorem run0_zz32 (N : Nat) (x : (S_zz32).a.den) : runF (A_zz32) N Try.f86 S_zz32 x = (zz32_s (zz32_R3 N N (zz32_K3 N)) x.1 x.2.1) := by kernel_rfl
theorem run_zz32 (N : Nat) (x : (S_zz32).a.den) : runF (A_zz32) N Try.f86 S_zz32 x = zz32 N x.1 x.2.1 := by
  refine (run0_zz32 N x).trans ?_
  rw [(funext fun most1 => (funext fun a2 => (funext fun principal5 => (funext fun x6 => zz32_in3 N most1 a2 principal5 x6))))]
  rfl
theorem fn_zz32 : FnOk Try.prog 86 := ⟨_, Try.func86, by kernel_rfl, by kernel_rfl⟩
theorem good_zz32 : Gx.Good Try.prog 86 S_zz32 := good_of_run Try.func86 (of_decide_eq_true (by kernel_rfl)) fun x r h => ⟨A_zz32, big, mkCfg_ok tabOk, mkCfg_sigs (show SigsOk Try.prog [(113, S_zz17), (112, S_zz26), (111, S_zz30), (114, S_zz31)] from ⟨⟨fn_zz17, good_zz17⟩, ⟨fn_zz26, good_zz26⟩, ⟨fn_zz30, good_zz30⟩, ⟨fn_zz31, good_zz31⟩, trivial⟩), (run_zz32 big x).trans h⟩

/-! zz33 -/
def zz33_s (a_0 : Y7) : Option Y2 :=
  (zz32 big a_0 (5000 : Int)).bind fun rq1 =>
  some (rq1.1, (()))
def zz33 (a_0 : Y7) : Option Y2 := zz33_s a_0
def S_zz33 : Sig := { a := (.pair (.pair I (.pair (.sl (.pair I (.pair (.sl I) .unit))) .unit)) .unit), md := [0], mf := [], m := .unit, r := (.sl (.sl I)), rf := .i, f := fun x => zz33 x.1 }
def A_zz33 : Cfg := mkCfg tab [(86, S_zz32)] []
theorem run_zz33 (N : Nat) (x : (S_zz33).a.den) : runF (A_zz33) N Try.f49 S_zz33 x = zz33 x.1 := by kernel_rfl
theorem fn_zz33 : FnOk Try.prog 49 := ⟨_, Try.func49, by kernel_rfl, by kernel_rfl⟩
theorem good_zz33 : Gx.Good Try.prog 49 S_zz33 := good_of_run Try.func49 (of_decide_eq_true (by kernel_rfl)) fun x r h => ⟨A_zz33, big, mkCfg_ok tabOk, mkCfg_sigs (show SigsOk Try.prog [(86, S_zz32)] from ⟨⟨fn_zz32, good_zz32⟩, trivial⟩), (run_zz33 big x).trans h⟩

/-! zz34 -/
def zz34_s (p_0 : Y2) : Z1 :=
  (zz15 p_0).bind fun rq1 =>
  cond (!rq1.1)
  (some (([], false, ()), (())))
  ((zz16 big p_0).bind fun rq2 =>
  (zz33 rq2.1).bind fun rq3 =>
  some ((rq3.1, true, ()), (())))
def zz34 (p_0 : Y2) : Z1 := zz34_s p_0
def S_zz34 : Sig := { a := (.pair (.pair (.sl (.sl I)) .unit) .unit), md := [0], mf := [], m := .unit, r := (.tup (.pair (.sl (.sl I)) (.pair .bool .unit))), rf := .i, f := fun x => zz34 x.1 }
def A_zz34 : Cfg := mkCfg tab [(48, S_zz15), (50, S_zz16), (49, S_zz33)] []
theorem run_zz34 (N : Nat) (x : (S_zz34).a.den) : runF (A_zz34) N Try.f20 S_zz34 x = zz34 x.1 := by kernel_rfl
theorem fn_zz34 : FnOk Try.prog 20 := ⟨_, Try.func20, by kernel_rfl, by kernel_rfl⟩
theorem good_zz34 : Gx.Good Try.prog 20 S_zz34 := good_of_run Try.func20 (of_decide_eq_true (by kernel_rfl)) fun x r h => ⟨A_zz34, big, mkCfg_ok tabOk, mkCfg_sigs (show SigsOk Try.prog [(48, S_zz15), (50, S_zz16), (49, S_zz33)] from ⟨⟨fn_zz15, good_zz15⟩, ⟨fn_zz16, good_zz16⟩, ⟨fn_zz33, good_zz33⟩, trivial⟩), (run_zz34 big x).trans h⟩

/-! zz35 -/
def zz35_b3 (rec : Int → Y5 → Int → Int → Z6) (k : Y5 → Z6) (n0 : Int) (o3 : Y5) (t8 t9 : Int) : Z6 :=
  cond (decide (t9 < t8))
  ((mkI false n0).bind fun xq3 => (mkI false n0).bind fun xq4 => cond (decide (n0 ≤ n0))
  ((atI o3 t9).bind fun _ =>
  (o3[t9.toNat]?).bind fun xq5 =>
  rec n0 (o3.set t9.toNat xq4) t8 (IntKind.i64.wrap (t9 + (1 : Int))))
  none)
  (k o3)
def zz35_a3 (o3 : Y5) : Z6 :=
  some (o3, (()))
def zz35_s (L3 : Int → Y5 → Int → Int → Z6) (n_0 : Int) : Z6 :=
  (mkI ([] : (List Bool)) n_0).bind fun xq1 => (mkI ([] : (List Bool)) n_0).bind fun xq2 => cond (decide (n_0 ≤ n_0))
  (L3 n_0 xq2 (xq2.length : Int) (0 : Int))
  none
def zz35_l3 (N : Nat) (k : Y5 → Z6) : Nat → Int → Y5 → Int → Int → Z6
  | 0, _, _, _, _ => none
  | m + 1, n0, o3, t8, t9 => zz35_b3 (zz35_l3 N k m) k n0 o3 t8 t9
def zz35_F3 (N : Nat) (n0 : Int) (o3 : Y5) (t8 t9 : Int) : Z6 := zz35_l3 N (zz35_a3) N n0 o3 t8 t9
def zz35 (N : Nat) (n_0 : Int) : Z6 := zz35_s (zz35_F3 N) n_0
def S_zz35 : Sig := { a := (.pair I .unit), md := [0], mf := [], m := .unit, r := (.sl (.sl .bool)), rf := (.o (.o .i)), f := fun x => zz35 big x.1 }
def A_zz35 : Cfg := mkCfg tab [] [(6, [.as I .i, .drop, .drop, .as (.sl (.sl .bool)) (.o (.o .i)), .drop, .drop, .drop, .drop, .as I .i, .as I .i]), (15, [.drop, .drop, .drop, .as (.sl (.sl .bool)) (.o (.o .i))])]
noncomputable def zz35_R3 (N n : Nat) (K : Ex → St → Z6) (n0 : Int) (o3 : Y5) (t8 t9 : Int) : Z6 := iter ((A_zz35).shape 6) (run (A_zz35) N (codeAt Try.f92 [1, 1, 0, 1, 0, 0])) n ([.val I .i n0, .u, .u, .val (.sl (.sl .bool)) (.o (.o .i)) o3, .u, .u, .u, .u, .val I .i t8, .val I .i t9] ++ List.replicate 9 .u) K
noncomputable abbrev zz35_z : Ex → St → Z6 := finish (A_zz35) S_zz35 Try.f92.results.toList
noncomputable abbrev zz35_X3 (kX : St → Z6) : Y5 → Z6 := fun (o3 : Y5) => kX ([.u, .u, .u, .val (.sl (.sl .bool)) (.o (.o .i)) o3] ++ List.replicate 15 .u)
noncomputable abbrev zz35_E3 (kX : St → Z6) (kO : Nat → St → Z6) : Ex → St → Z6 := exK zz35_z 0 ((A_zz35).shape 15) kX kO
theorem zz35_step3 (N m : Nat) (kX : St → Z6) (kO : Nat → St → Z6) (n0 : Int) (o3 : Y5) (t8 t9 : Int) : zz35_R3 N (m + 1) (zz35_E3 kX kO) n0 o3 t8 t9 = zz35_b3 (zz35_R3 N m (zz35_E3 kX kO)) (zz35_X3 kX) n0 o3 t8 t9 := by kernel_rfl
theorem zz35_iter3 (N : Nat) (kX : St → Z6) (kO : Nat → St → Z6) : ∀ (n : Nat) (n0 : Int) (o3 : Y5) (t8 t9 : Int), zz35_R3 N n (zz35_E3 kX kO) n0 o3 t8 t9 = zz35_l3 N (zz35_X3 kX) n n0 o3 t8 t9
  | 0, _, _, _, _ => rfl
  | m + 1, n0, o3, t8, t9 => by
    have hrec : zz35_R3 N m (zz35_E3 kX kO) = (zz35_l3 N (zz35_X3 kX) m) := (funext fun n0 => (funext fun o3 => (funext fun t8 => (funext fun t9 => zz35_iter3 N kX kO m n0 o3 t8 t9))))
    refine (zz35_step3 N m kX kO n0 o3 t8 t9).trans ?_
    rw [hrec]
    rfl
noncomputable abbrev zz35_K3 (N : Nat) : Ex → St → Z6 := (blockK 0 (seqK ((A_zz35).shape 15) (run (A_zz35) N (codeAt Try.f92 [1, 1, 1])) zz35_z))
noncomputable abbrev zz35_k3 (N : Nat) : St → Z6 := fun st' => run (A_zz35) N (codeAt Try.f92 [1, 1, 1]) st' zz35_z
theorem zz35_after3 (N : Nat) (o3 : Y5) : zz35_X3 (zz35_k3 N) o3 = zz35_a3 o3 := by kernel_rfl
theorem zz35_in3 (N : Nat) (n0 : Int) (o3 : Y5) (t8 t9 : Int) : zz35_R3 N N (zz35_K3 N) n0 o3 t8 t9 = zz35_F3 N n0 o3 t8 t9 :=
  have h : zz35_X3 (zz35_k3 N) = (zz35_a3) := (funext fun o3 => zz35_after3 N o3)
  ((iter_ex (fun st => by kernel_rfl) (fun st => by kernel_rfl)).trans (zz35_iter3 N (zz35_k3 N) (fun j st => (zz35_K3 N) (.exit j) st) N n0 o3 t8 t9)).trans (congrArg (fun k => zz35_l3 N k N n0 o3 t8 t9) h)
theorem run0_zz35 (N : Nat) (x : (S_zz35).a.den) : runF (A_zz35) N Try.f92 S_zz35 x = (zz35_s (zz35_R3 N N (zz35_K3 N)) x.1) := by kernel_rfl
theorem run_zz35 (N : Nat) (x : (S_zz35).a.den) : runF (A_zz35) N Try.f92 S_zz35 x = zz35 N x.1 := by
  refine (run0_zz35 N x).trans ?_
  rw [(funext fun n0 => (funext fun o3 => (funext fun t8 => (funext fun t9 => zz35_in3 N n0 o3 t8 t9))))]
  rfl
theorem fn_zz35 : FnOk Try.prog 92 := ⟨_, Try.func92, by kernel_rfl, by kernel_rfl⟩
theorem good_zz35 : Gx.Good Try.prog 92 S_zz35 := good_of_run Try.func92 (of_decide_eq_true (by kernel_rfl)) fun x r h => ⟨A_zz35, big, mkCfg_ok tabOk, mkCfg_sigs (show SigsOk Try.prog [] from trivial), (run_zz35 big x).trans h⟩

/-! zz36 -/
def zz36_b2 (rec : Y4 → Int → Z0) (k : Z0) (list0 : Y4) (i3 : Int) : Z0 :=
  cond (decide (i3 < (list0.length : Int)))
  ((atI list0 (IntKind.i64.wrap (i3 - (1 : Int)))).bind fun xq1 =>
  (atI list0 i3).bind fun xq2 =>
  cond (decide (xq2 ≤ xq1))
  (some (false, (())))
  (rec list0 (IntKind.i64.wrap (i3 + (1 : Int)))))
  (k)
def zz36_a2 : Z0 :=
  some (true, (()))
def zz36_s (L2 : Y4 → Int → Z0) (list_0 : Y4) : Z0 :=
  L2 list_0 (1 : Int)
def zz36_l2 (N : Nat) (k : Z0) : Nat → Y4 → Int → Z0
  | 0, _, _ => none
  | m + 1, list0, i3 => zz36_b2 (zz36_l2 N k m) k list0 i3
def zz36_F2 (N : Nat) (list0 : Y4) (i3 : Int) : Z0 := zz36_l2 N (zz36_a2) N list0 i3
def zz36 (N : Nat) (list_0 : Y4) : Z0 := zz36_s (zz36_F2 N) list_0
def S_zz36 : Sig := { a := (.pair (.sl I) .unit), md := [0], mf := [], m := .unit, r := .bool, rf := .i, f := fun x => zz36 big x.1 }
def A_zz36 : Cfg := mkCfg tab [] [(4, [.as (.sl I) .i, .drop, .drop, .as I .i]), (13, [])]
noncomputable def zz36_R2 (N n : Nat) (K : Ex → St → Z0) (list0 : Y4) (i3 : Int) : Z0 := iter ((A_zz36).shape 4) (run (A_zz36) N (codeAt Try.f84 [1, 0, 1, 0, 0])) n ([.val (.sl I) .i list0, .u, .u, .val I .i i3] ++ List.replicate 16 .u) K
noncomputable abbrev zz36_z : Ex → St → Z0 := finish (A_zz36) S_zz36 Try.f84.results.toList
noncomputable abbrev zz36_X2 (kX : St → Z0) : Z0 := kX ([] ++ List.replicate 20 .u)
noncomputable abbrev zz36_E2 (kX : St → Z0) (kO : Nat → St → Z0) : Ex → St → Z0 := exK zz36_z 0 ((A_zz36).shape 13) kX kO
theorem zz36_step2 (N m : Nat) (kX : St → Z0) (kO : Nat → St → Z0) (list0 : Y4) (i3 : Int) : zz36_R2 N (m + 1) (zz36_E2 kX kO) list0 i3 = zz36_b2 (zz36_R2 N m (zz36_E2 kX kO)) (zz36_X2 kX) list0 i3 := by kernel_rfl
theorem zz36_iter2 (N : Nat) (kX : St → Z0) (kO : Nat → St → Z0) : ∀ (n : Nat) (list0 : Y4) (i3 : Int), zz36_R2 N n (zz36_E2 kX kO) list0 i3 = zz36_l2 N (zz36_X2 kX) n list0 i3
  | 0, _, _ => rfl
  | m + 1, list0, i3 => by
    have hrec : zz36_R2 N m (zz36_E2 kX kO) = (zz36_l2 N (zz36_X2 kX) m) := (funext fun list0 => (funext fun i3 => zz36_iter2 N kX kO m list0 i3))
    refine (zz36_step2 N m kX kO list0 i3).trans ?_
    rw [hrec]
    rfl
noncomputable abbrev zz36_K2 (N : Nat) : Ex → St → Z0 := (blockK 0 (seqK ((A_zz36).shape 13) (run (A_zz36) N (codeAt Try.f84 [1, 1])) zz36_z))
noncomputable abbrev zz36_k2 (N : Nat) : St → Z0 := fun st' => run (A_zz36) N (codeAt Try.f84 [1, 1]) st' zz36_z
theorem zz36_after2 (N : Nat) : zz36_X2 (zz36_k2 N) = zz36_a2 := by kernel_rfl
theorem zz36_in2 (N : Nat) (list0 : Y4) (i3 : Int) : zz36_R2 N N (zz36_K2 N) list0 i3 = zz36_F2 N list0 i3 :=
  have h : zz36_X2 (zz36_k2 N) = (zz36_a2) := zz36_after2 N
  ((iter_ex (fun st => by kernel_rfl) (fun st => by kernel_rfl)).trans (zz36_iter2 N (zz36_k2 N) (fun j st => (zz36_K2 N) (.exit j) st) N list0 i3)).trans (congrArg (fun k => zz36_l2 N k N list0 i3) h)
theorem run0_zz36 (N : Nat) (x : (S_zz36).a.den) : runF (A_zz36) N Try.f84 S_zz36 x = (zz36_s (zz36_R2 N N (zz36_K2 N)) x.1) := by kernel_rfl
theorem run_zz36 (N : Nat) (x : (S_zz36).a.den) : runF (A_zz36) N Try.f84 S_zz36 x = zz36 N x.1 := by
  refine (run0_zz36 N x).trans ?_
  rw [(funext fun list0 => (funext fun i3 => zz36_in2 N list0 i3))]
  rfl
theorem fn_zz36 : FnOk Try.prog 84 := ⟨_, Try.func84, by kernel_rfl, by kernel_rfl⟩
theorem good_zz36 : Gx.Good Try.prog 84 S_zz36 := good_of_run Try.func84 (of_decide_eq_true (by kernel_rfl)) fun x r h => ⟨A_zz36, big, mkCfg_ok tabOk, mkCfg_sigs (show SigsOk Try.prog [] from trivial), (run_zz36 big x).trans h⟩

/-! zz37 -/
def zz37_b2 (rec : Int → Y4 → Int → Int → Z0) (k : Z0) (n1 : Int) (t7 : Y4) (t8 t9 : Int) : Z0 :=
  cond (decide (t9 < t8))
  ((atI t7 t9).bind fun xq1 =>
  cond (decide (xq1 < (0 : Int)))
  (some (false, (())))
  (cond (decide (n1 ≤ xq1))
  (some (false, (())))
  (rec n1 t7 t8 (IntKind.i64.wrap (t9 + (1 : Int))))))
  (k)
def zz37_a2 : Z0 :=
  some (true, (()))
def zz37_s (L2 : Int → Y4 → Int → Int → Z0) (list_0 : Y4) (n_1 : Int) : Z0 :=
  L2 n_1 list_0 (list_0.length : Int) (0 : Int)
def zz37_l2 (N : Nat) (k : Z0) : Nat → Int → Y4 → Int → Int → Z0
  | 0, _, _, _, _ => none
  | m + 1, n1, t7, t8, t9 => zz37_b2 (zz37_l2 N k m) k n1 t7 t8 t9
def zz37_F2 (N : Nat) (n1 : Int) (t7 : Y4) (t8 t9 : Int) : Z0 := zz37_l2 N (zz37_a2) N n1 t7 t8 t9
def zz37 (N : Nat) (list_0 : Y4) (n_1 : Int) : Z0 := zz37_s (zz37_F2 N) list_0 n_1
def S_zz37 : Sig := { a := (.pair (.sl I) (.pair I .unit)), md := [0, 0], mf := [], m := .unit, r := .bool, rf := .i, f := fun x => zz37 big x.1 x.2.1 }
def A_zz37 : Cfg := mkCfg tab [] [(4, [.drop, .as I .i, .drop, .drop, .drop, .drop, .drop, .as (.sl I) .i, .as I .i, .as I .i]), (15, [])]
noncomputable def zz37_R2 (N n : Nat) (K : Ex → St → Z0) (n1 : Int) (t7 : Y4) (t8 t9 : Int) : Z0 := iter ((A_zz37).shape 4) (run (A_zz37) N (codeAt Try.f93 [1, 0, 1, 0, 0])) n ([.u, .val I .i n1, .u, .u, .u, .u, .u, .val (.sl I) .i t7, .val I .i t8, .val I .i t9] ++ List.replicate 11 .u) K
noncomputable abbrev zz37_z : Ex → St → Z0 := finish (A_zz37) S_zz37 Try.f93.results.toList
noncomputable abbrev zz37_X2 (kX : St → Z0) : Z0 := kX ([] ++ List.replicate 21 .u)
noncomputable abbrev zz37_E2 (kX : St → Z0) (kO : Nat → St → Z0) : Ex → St → Z0 := exK zz37_z 0 ((A_zz37).shape 15) kX kO
theorem zz37_step2 (N m : Nat) (kX : St → Z0) (kO : Nat → St → Z0) (n1 : Int) (t7 : Y4) (t8 t9 : Int) : zz37_R2 N (m + 1) (zz37_E2 kX kO) n1 t7 t8 t9 = zz37_b2 (zz37_R2 N m (zz37_E2 kX kO)) (zz37_X2 kX) n1 t7 t8 t9 := by kernel_rfl
theorem zz37_iter2 (N : Nat) (kX : St → Z0) (kO : Nat → St → Z0) : ∀ (n : Nat) (n1 : Int) (t7 : Y4) (t8 t9 : Int), zz37_R2 N n (zz37_E2 kX kO) n1 t7 t8 t9 = zz37_l2 N (zz37_X2 kX) n n1 t7 t8 t9
  | 0, _, _, _, _ => rfl
  | m + 1, n1, t7, t8, t9 => by
    have hrec : zz37_R2 N m (zz37_E2 kX kO) = (zz37_l2 N (zz37_X2 kX) m) := (funext fun n1 => (funext fun t7 => (funext fun t8 => (funext fun t9 => zz37_iter2 N kX kO m n1 t7 t8 t9))))
    refine (zz37_step2 N m kX kO n1 t7 t8 t9).trans ?_
    rw [hrec]
    rfl
noncomputable abbrev zz37_K2 (N : Nat) : Ex → St → Z0 := (blockK 0 (seqK ((A_zz37).shape 15) (run (A_zz37) N (codeAt Try.f93 [1, 1])) zz37_z))
noncomputable abbrev zz37_k2 (N : Nat) : St → Z0 := fun st' => run (A_zz37) N (codeAt Try.f93 [1, 1]) st' zz37_z
theorem zz37_after2 (N : Nat) : zz37_X2 (zz37_k2 N) = zz37_a2 := by kernel_rfl
theorem zz37_in2 (N : Nat) (n1 : Int) (t7 : Y4) (t8 t9 : Int) : zz37_R2 N N (zz37_K2 N) n1 t7 t8 t9 = zz37_F2 N n1 t7 t8 t9 :=
  have h : zz37_X2 (zz37_k2 N) = (zz37_a2) := zz37_after2 N
  ((iter_ex (fun st => by kernel_rfl) (fun st => by kernel_rfl)).trans (zz37_iter2 N (zz37_k2 N) (fun j st => (zz37_K2 N) (.exit j) st) N n1 t7 t8 t9)).trans (congrArg (fun k => zz37_l2 N k N n1 t7 t8 t9) h)
theorem run0_zz37 (N : Nat) (x : (S_zz37).a.den) : runF (A_zz37) N Try.f93 S_zz37 x = (zz37_s (zz37_R2 N N (zz37_K2 N)) x.1 x.2.1) := by kernel_rfl
theorem run_zz37 (N : Nat) (x : (S_zz37).a.den) : runF (A_zz37) N Try.f93 S_zz37 x = zz37 N x.1 x.2.1 := by
  refine (run0_zz37 N x).trans ?_
  rw [(funext fun n1 => (funext fun t7 => (funext fun t8 => (funext fun t9 => zz37_in2 N n1 t7 t8 t9))))]
  rfl
theorem fn_zz37 : FnOk Try.prog 93 := ⟨_, Try.func93, by kernel_rfl, by kernel_rfl⟩
theorem good_zz37 : Gx.Good Try.prog 93 S_zz37 := good_of_run Try.func93 (of_decide_eq_true (by kernel_rfl)) fun x r h => ⟨A_zz37, big, mkCfg_ok tabOk, mkCfg_sigs (show SigsOk Try.prog [] from trivial), (run_zz37 big x).trans h⟩
end Go.Proofs.Ytlndlclemhfekaa
