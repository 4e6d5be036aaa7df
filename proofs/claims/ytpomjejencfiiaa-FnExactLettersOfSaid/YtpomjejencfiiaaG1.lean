import Derived.Test.YtpomjejencfiiaaGxGen
import Derived.Test.YtpomjejencfiiaaRows
import Derived.Test.YtpomjejencfiiaaChecked
import Derived.KernelRfl
set_option maxRecDepth 100000
set_option linter.unusedVariables false
namespace Go.Proofs.Ytpomjejencfiiaa
open Go Go.Gx Go.Proofs

abbrev I := Ty.int .i64
def tab : Tab := { es := [(25, I, .i), (30, (.sl .bool), (.o .i)), (49, .bool, .i)], ts := [(3, I, .i), (4, .bool, .i), (5, (.int .u8), .i), (9, .str, .i), (25, (.sl I), (.o .i)), (30, (.sl (.sl .bool)), (.o (.o .i))), (47, (.int .u64), .i), (49, (.sl .bool), (.o .i))], fs := [], ars := [] }
theorem tabOk : tab.chk Try.prog = true := by kernel_rfl

/-! spec_l1In -/
def spec_l1In_s (x_0 : Int) (a_1 : Int) (b_2 : Int) : Option (Bool × Unit) :=
  cond (decide (a_1 ≤ x_0))
  (some (decide (x_0 ≤ b_2), (())))
  (some (false, (())))
def spec_l1In (x_0 : Int) (a_1 : Int) (b_2 : Int) : Option (Bool × Unit) := spec_l1In_s x_0 a_1 b_2
def S_spec_l1In : Sig := { a := (.pair I (.pair I (.pair I .unit))), md := [0, 0, 0], mf := [], m := .unit, r := .bool, rf := .i, f := fun x => spec_l1In x.1 x.2.1 x.2.2.1 }
def A_spec_l1In : Cfg := mkCfg tab [] []
theorem run_spec_l1In (N : Nat) (x : (S_spec_l1In).a.den) : runF (A_spec_l1In) N Try.f46 S_spec_l1In x = spec_l1In x.1 x.2.1 x.2.2.1 := by kernel_rfl
theorem fn_spec_l1In : FnOk Try.prog 46 := ⟨_, Try.func46, by kernel_rfl, by kernel_rfl⟩
theorem good_spec_l1In : Gx.Good Try.prog 46 S_spec_l1In := good_of_run Try.func46 (of_decide_eq_true (by kernel_rfl)) fun x r h => ⟨A_spec_l1In, big, mkCfg_ok tabOk, mkCfg_sigs (show SigsOk Try.prog [] from trivial), (run_spec_l1In big x).trans h⟩

/-! spec_l2Pow -/
def spec_l2Pow_b2 (rec : Int → Int → Int → Option (Int × Unit)) (k : Int → Option (Int × Unit)) (n0 : Int) (k1 : Int) (out5 : Int) : Option (Int × Unit) :=
  cond (decide ((0 : Int) < k1))
  (rec n0 (IntKind.i64.wrap (k1 - (1 : Int))) (IntKind.i64.wrap (out5 * n0)))
  (k out5)
def spec_l2Pow_a2 (out5 : Int) : Option (Int × Unit) :=
  some (out5, (()))
def spec_l2Pow_s (L2 : Int → Int → Int → Option (Int × Unit)) (n_0 : Int) (k_1 : Int) : Option (Int × Unit) :=
  L2 n_0 k_1 (1 : Int)
def spec_l2Pow_l2 (N : Nat) (k : Int → Option (Int × Unit)) : Nat → Int → Int → Int → Option (Int × Unit)
  | 0, _, _, _ => none
  | m + 1, n0, k1, out5 => spec_l2Pow_b2 (spec_l2Pow_l2 N k m) k n0 k1 out5
def spec_l2Pow_F2 (N : Nat) (n0 : Int) (k1 : Int) (out5 : Int) : Option (Int × Unit) := spec_l2Pow_l2 N (spec_l2Pow_a2) N n0 k1 out5
def spec_l2Pow (N : Nat) (n_0 : Int) (k_1 : Int) : Option (Int × Unit) := spec_l2Pow_s (spec_l2Pow_F2 N) n_0 k_1
def S_spec_l2Pow : Sig := { a := (.pair I (.pair I .unit)), md := [0, 0], mf := [], m := .unit, r := I, rf := .i, f := fun x => spec_l2Pow big x.1 x.2.1 }
def A_spec_l2Pow : Cfg := mkCfg tab [] [(4, [.as I .i, .as I .i, .drop, .drop, .drop, .as I .i]), (11, [.drop, .drop, .drop, .drop, .drop, .as I .i])]
def spec_l2Pow_R2 (cd : Code) (N n : Nat) (K : Ex → St → Option (Int × Unit)) (n0 : Int) (k1 : Int) (out5 : Int) : Option (Int × Unit) := iter ((A_spec_l2Pow).shape 4) (run (A_spec_l2Pow) N cd) n ([.val I .i n0, .val I .i k1, .u, .u, .u, .val I .i out5] ++ List.replicate 8 .u) K
theorem spec_l2Pow_step2 (N : Nat) (m : Nat) (kX : St → Option (Int × Unit)) (kO : Nat → St → Option (Int × Unit)) (n0 : Int) (k1 : Int) (out5 : Int) : spec_l2Pow_R2 (codeAt Try.f47 [1, 1, 0, 0, 0]) N (m + 1) (exK (finish (A_spec_l2Pow) S_spec_l2Pow Try.f47.results.toList) 0 ((A_spec_l2Pow).shape 11) kX kO) n0 k1 out5 = spec_l2Pow_b2 (spec_l2Pow_R2 (codeAt Try.f47 [1, 1, 0, 0, 0]) N m (exK (finish (A_spec_l2Pow) S_spec_l2Pow Try.f47.results.toList) 0 ((A_spec_l2Pow).shape 11) kX kO)) (fun (out5 : Int) => kX ([.u, .u, .u, .u, .u, .val I .i out5] ++ List.replicate 8 .u)) n0 k1 out5 := by kernel_rfl
theorem spec_l2Pow_iter2 (N : Nat) (kX : St → Option (Int × Unit)) (kO : Nat → St → Option (Int × Unit)) : ∀ (n : Nat) (n0 : Int) (k1 : Int) (out5 : Int), spec_l2Pow_R2 (codeAt Try.f47 [1, 1, 0, 0, 0]) N n (exK (finish (A_spec_l2Pow) S_spec_l2Pow Try.f47.results.toList) 0 ((A_spec_l2Pow).shape 11) kX kO) n0 k1 out5 = spec_l2Pow_l2 N (fun (out5 : Int) => kX ([.u, .u, .u, .u, .u, .val I .i out5] ++ List.replicate 8 .u)) n n0 k1 out5
  | 0, _, _, _ => rfl
  | m + 1, n0, k1, out5 => by
    have hrec : spec_l2Pow_R2 (codeAt Try.f47 [1, 1, 0, 0, 0]) N m (exK (finish (A_spec_l2Pow) S_spec_l2Pow Try.f47.results.toList) 0 ((A_spec_l2Pow).shape 11) kX kO) = (spec_l2Pow_l2 N (fun (out5 : Int) => kX ([.u, .u, .u, .u, .u, .val I .i out5] ++ List.replicate 8 .u)) m) := (funext fun n0 => (funext fun k1 => (funext fun out5 => spec_l2Pow_iter2 N kX kO m n0 k1 out5)))
    refine (spec_l2Pow_step2 N m kX kO n0 k1 out5).trans ?_
    rw [hrec]
    rfl
theorem spec_l2Pow_after2 (N : Nat) (out5 : Int) : (fun st' => run (A_spec_l2Pow) N (codeAt Try.f47 [1, 1, 1]) st' (finish (A_spec_l2Pow) S_spec_l2Pow Try.f47.results.toList)) ([.u, .u, .u, .u, .u, .val I .i out5] ++ List.replicate 8 .u) = spec_l2Pow_a2 out5 := by kernel_rfl
theorem spec_l2Pow_in2 (N : Nat) (n0 : Int) (k1 : Int) (out5 : Int) : spec_l2Pow_R2 (codeAt Try.f47 [1, 1, 0, 0, 0]) N N (blockK 0 (seqK ((A_spec_l2Pow).shape 11) (run (A_spec_l2Pow) N (codeAt Try.f47 [1, 1, 1])) (finish (A_spec_l2Pow) S_spec_l2Pow Try.f47.results.toList))) n0 k1 out5 = spec_l2Pow_F2 N n0 k1 out5 :=
  have h : (fun (out5 : Int) => (fun st' => run (A_spec_l2Pow) N (codeAt Try.f47 [1, 1, 1]) st' (finish (A_spec_l2Pow) S_spec_l2Pow Try.f47.results.toList)) ([.u, .u, .u, .u, .u, .val I .i out5] ++ List.replicate 8 .u)) = (spec_l2Pow_a2) := (funext fun out5 => spec_l2Pow_after2 N out5)
  have e : spec_l2Pow_R2 (codeAt Try.f47 [1, 1, 0, 0, 0]) N N (blockK 0 (seqK ((A_spec_l2Pow).shape 11) (run (A_spec_l2Pow) N (codeAt Try.f47 [1, 1, 1])) (finish (A_spec_l2Pow) S_spec_l2Pow Try.f47.results.toList))) n0 k1 out5 = spec_l2Pow_R2 (codeAt Try.f47 [1, 1, 0, 0, 0]) N N (exK (finish (A_spec_l2Pow) S_spec_l2Pow Try.f47.results.toList) 0 ((A_spec_l2Pow).shape 11) (fun st' => run (A_spec_l2Pow) N (codeAt Try.f47 [1, 1, 1]) st' (finish (A_spec_l2Pow) S_spec_l2Pow Try.f47.results.toList)) (fun j st => (blockK 0 (seqK ((A_spec_l2Pow).shape 11) (run (A_spec_l2Pow) N (codeAt Try.f47 [1, 1, 1])) (finish (A_spec_l2Pow) S_spec_l2Pow Try.f47.results.toList))) (.exit j) st)) n0 k1 out5 := iter_ex (fun st => by kernel_rfl) (fun st => by kernel_rfl)
  (e.trans (spec_l2Pow_iter2 N (fun st' => run (A_spec_l2Pow) N (codeAt Try.f47 [1, 1, 1]) st' (finish (A_spec_l2Pow) S_spec_l2Pow Try.f47.results.toList)) (fun j st => (blockK 0 (seqK ((A_spec_l2Pow).shape 11) (run (A_spec_l2Pow) N (codeAt Try.f47 [1, 1, 1])) (finish (A_spec_l2Pow) S_spec_l2Pow Try.f47.results.toList))) (.exit j) st) N n0 k1 out5)).trans (congrArg (fun k => spec_l2Pow_l2 N k N n0 k1 out5) h)
theorem run0_spec_l2Pow (N : Nat) (x : (S_spec_l2Pow).a.den) : runF (A_spec_l2Pow) N Try.f47 S_spec_l2Pow x = (spec_l2Pow_s (spec_l2Pow_R2 (codeAt Try.f47 [1, 1, 0, 0, 0]) N N (blockK 0 (seqK ((A_spec_l2Pow).shape 11) (run (A_spec_l2Pow) N (codeAt Try.f47 [1, 1, 1])) (finish (A_spec_l2Pow) S_spec_l2Pow Try.f47.results.toList)))) x.1 x.2.1) := by kernel_rfl
theorem run_spec_l2Pow (N : Nat) (x : (S_spec_l2Pow).a.den) : runF (A_spec_l2Pow) N Try.f47 S_spec_l2Pow x = spec_l2Pow N x.1 x.2.1 := by
  refine (run0_spec_l2Pow N x).trans ?_
  rw [(funext fun n0 => (funext fun k1 => (funext fun out5 => spec_l2Pow_in2 N n0 k1 out5)))]
  rfl
theorem fn_spec_l2Pow : FnOk Try.prog 47 := ⟨_, Try.func47, by kernel_rfl, by kernel_rfl⟩
theorem good_spec_l2Pow : Gx.Good Try.prog 47 S_spec_l2Pow := good_of_run Try.func47 (of_decide_eq_true (by kernel_rfl)) fun x r h => ⟨A_spec_l2Pow, big, mkCfg_ok tabOk, mkCfg_sigs (show SigsOk Try.prog [] from trivial), (run_spec_l2Pow big x).trans h⟩

/-! spec_FreeBooleanSize -/
def spec_FreeBooleanSize_s (k_0 : Int) : Option ((Int × (Bool × Unit)) × Unit) :=
  (spec_l1In k_0 (0 : Int) (5 : Int)).bind fun rq1 =>
  cond (!rq1.1)
  (some (((0 : Int), false, ()), (())))
  ((spec_l2Pow big (2 : Int) k_0).bind fun rq2 =>
  (spec_l2Pow big (2 : Int) rq2.1).bind fun rq3 =>
  some ((rq3.1, true, ()), (())))
def spec_FreeBooleanSize (k_0 : Int) : Option ((Int × (Bool × Unit)) × Unit) := spec_FreeBooleanSize_s k_0
def S_spec_FreeBooleanSize : Sig := { a := (.pair I .unit), md := [0], mf := [], m := .unit, r := (.tup (.pair I (.pair .bool .unit))), rf := .i, f := fun x => spec_FreeBooleanSize x.1 }
def A_spec_FreeBooleanSize : Cfg := mkCfg tab [(46, S_spec_l1In), (47, S_spec_l2Pow)] []
theorem run_spec_FreeBooleanSize (N : Nat) (x : (S_spec_FreeBooleanSize).a.den) : runF (A_spec_FreeBooleanSize) N Try.f15 S_spec_FreeBooleanSize x = spec_FreeBooleanSize x.1 := by kernel_rfl
theorem fn_spec_FreeBooleanSize : FnOk Try.prog 15 := ⟨_, Try.func15, by kernel_rfl, by kernel_rfl⟩
theorem good_spec_FreeBooleanSize : Gx.Good Try.prog 15 S_spec_FreeBooleanSize := good_of_run Try.func15 (of_decide_eq_true (by kernel_rfl)) fun x r h => ⟨A_spec_FreeBooleanSize, big, mkCfg_ok tabOk, mkCfg_sigs (show SigsOk Try.prog [(46, S_spec_l1In), (47, S_spec_l2Pow)] from ⟨⟨fn_spec_l1In, good_spec_l1In⟩, ⟨fn_spec_l2Pow, good_spec_l2Pow⟩, trivial⟩), (run_spec_FreeBooleanSize big x).trans h⟩

/-! impl_FreeBooleanSize -/
def impl_FreeBooleanSize_s (k_0 : Int) : Option ((Int × (Bool × Unit)) × Unit) :=
  cond (decide (k_0 < (0 : Int)))
  (some (((0 : Int), false, ()), (())))
  (cond (decide ((5 : Int) < k_0))
  (some (((0 : Int), false, ()), (())))
  ((shlI IntKind.u64 (1 : Int) k_0).bind fun xq1 =>
  (shlI IntKind.i64 (1 : Int) xq1).bind fun xq2 =>
  some ((xq2, true, ()), (()))))
def impl_FreeBooleanSize (k_0 : Int) : Option ((Int × (Bool × Unit)) × Unit) := impl_FreeBooleanSize_s k_0
def S_impl_FreeBooleanSize : Sig := { a := (.pair I .unit), md := [0], mf := [], m := .unit, r := (.tup (.pair I (.pair .bool .unit))), rf := .i, f := fun x => impl_FreeBooleanSize x.1 }
def A_impl_FreeBooleanSize : Cfg := mkCfg tab [] []
theorem run_impl_FreeBooleanSize (N : Nat) (x : (S_impl_FreeBooleanSize).a.den) : runF (A_impl_FreeBooleanSize) N Try.f16 S_impl_FreeBooleanSize x = impl_FreeBooleanSize x.1 := by kernel_rfl
theorem fn_impl_FreeBooleanSize : FnOk Try.prog 16 := ⟨_, Try.func16, by kernel_rfl, by kernel_rfl⟩
theorem good_impl_FreeBooleanSize : Gx.Good Try.prog 16 S_impl_FreeBooleanSize := good_of_run Try.func16 (of_decide_eq_true (by kernel_rfl)) fun x r h => ⟨A_impl_FreeBooleanSize, big, mkCfg_ok tabOk, mkCfg_sigs (show SigsOk Try.prog [] from trivial), (run_impl_FreeBooleanSize big x).trans h⟩

/-! laws_FnExactFreeBooleanSize -/
def laws_FnExactFreeBooleanSize_s (aK_0 : Int) : Option (Bool × Unit) :=
  (spec_FreeBooleanSize aK_0).bind fun rq1 =>
  (impl_FreeBooleanSize aK_0).bind fun rq2 =>
  cond (decide (rq2.1.1 ≠ rq1.1.1))
  (some (false, (())))
  (cond (rq2.1.2.1 != rq1.1.2.1)
  (some (false, (())))
  (some (true, (()))))
def laws_FnExactFreeBooleanSize (aK_0 : Int) : Option (Bool × Unit) := laws_FnExactFreeBooleanSize_s aK_0
def S_laws_FnExactFreeBooleanSize : Sig := { a := (.pair I .unit), md := [0], mf := [], m := .unit, r := .bool, rf := .i, f := fun x => laws_FnExactFreeBooleanSize x.1 }
def A_laws_FnExactFreeBooleanSize : Cfg := mkCfg tab [(15, S_spec_FreeBooleanSize), (16, S_impl_FreeBooleanSize)] []
theorem run_laws_FnExactFreeBooleanSize (N : Nat) (x : (S_laws_FnExactFreeBooleanSize).a.den) : runF (A_laws_FnExactFreeBooleanSize) N Try.f3 S_laws_FnExactFreeBooleanSize x = laws_FnExactFreeBooleanSize x.1 := by kernel_rfl
theorem fn_laws_FnExactFreeBooleanSize : FnOk Try.prog 3 := ⟨_, Try.func3, by kernel_rfl, by kernel_rfl⟩
theorem good_laws_FnExactFreeBooleanSize : Gx.Good Try.prog 3 S_laws_FnExactFreeBooleanSize := good_of_run Try.func3 (of_decide_eq_true (by kernel_rfl)) fun x r h => ⟨A_laws_FnExactFreeBooleanSize, big, mkCfg_ok tabOk, mkCfg_sigs (show SigsOk Try.prog [(15, S_spec_FreeBooleanSize), (16, S_impl_FreeBooleanSize)] from ⟨⟨fn_spec_FreeBooleanSize, good_spec_FreeBooleanSize⟩, ⟨fn_impl_FreeBooleanSize, good_impl_FreeBooleanSize⟩, trivial⟩), (run_laws_FnExactFreeBooleanSize big x).trans h⟩

/-! laws_toIntS -/
def laws_toIntS_b3 (rec : (List Int) → (List Int) → Int → Option ((List Int) × Unit)) (k : (List Int) → Option ((List Int) × Unit)) (a0 : (List Int)) (out3 : (List Int)) (i4 : Int) : Option ((List Int) × Unit) :=
  cond (decide (i4 < (a0.length : Int)))
  ((atI a0 i4).bind fun xq3 =>
  (atI out3 i4).bind fun _ =>
  (out3[i4.toNat]?).bind fun xq4 =>
  rec a0 (out3.set i4.toNat xq3) (IntKind.i64.wrap (i4 + (1 : Int))))
  (k out3)
def laws_toIntS_a3 (out3 : (List Int)) : Option ((List Int) × Unit) :=
  some (out3, (()))
def laws_toIntS_s (L3 : (List Int) → (List Int) → Int → Option ((List Int) × Unit)) (a_0 : (List Int)) : Option ((List Int) × Unit) :=
  (mkI (0 : Int) (a_0.length : Int)).bind fun xq1 => (mkI (0 : Int) (a_0.length : Int)).bind fun xq2 => cond (decide ((a_0.length : Int) ≤ (a_0.length : Int)))
  (L3 a_0 xq2 (0 : Int))
  none
def laws_toIntS_l3 (N : Nat) (k : (List Int) → Option ((List Int) × Unit)) : Nat → (List Int) → (List Int) → Int → Option ((List Int) × Unit)
  | 0, _, _, _ => none
  | m + 1, a0, out3, i4 => laws_toIntS_b3 (laws_toIntS_l3 N k m) k a0 out3 i4
def laws_toIntS_F3 (N : Nat) (a0 : (List Int)) (out3 : (List Int)) (i4 : Int) : Option ((List Int) × Unit) := laws_toIntS_l3 N (laws_toIntS_a3) N a0 out3 i4
def laws_toIntS (N : Nat) (a_0 : (List Int)) : Option ((List Int) × Unit) := laws_toIntS_s (laws_toIntS_F3 N) a_0
def S_laws_toIntS : Sig := { a := (.pair (.sl I) .unit), md := [0], mf := [], m := .unit, r := (.sl I), rf := (.o .i), f := fun x => laws_toIntS big x.1 }
def A_laws_toIntS : Cfg := mkCfg tab [] [(6, [.as (.sl I) .i, .drop, .drop, .as (.sl I) (.o .i), .as I .i]), (13, [.drop, .drop, .drop, .as (.sl I) (.o .i)])]
def laws_toIntS_R3 (cd : Code) (N n : Nat) (K : Ex → St → Option ((List Int) × Unit)) (a0 : (List Int)) (out3 : (List Int)) (i4 : Int) : Option ((List Int) × Unit) := iter ((A_laws_toIntS).shape 6) (run (A_laws_toIntS) N cd) n ([.val (.sl I) .i a0, .u, .u, .val (.sl I) (.o .i) out3, .val I .i i4] ++ List.replicate 17 .u) K
theorem laws_toIntS_step3 (N : Nat) (m : Nat) (kX : St → Option ((List Int) × Unit)) (kO : Nat → St → Option ((List Int) × Unit)) (a0 : (List Int)) (out3 : (List Int)) (i4 : Int) : laws_toIntS_R3 (codeAt Try.f18 [1, 1, 0, 1, 0, 0]) N (m + 1) (exK (finish (A_laws_toIntS) S_laws_toIntS Try.f18.results.toList) 0 ((A_laws_toIntS).shape 13) kX kO) a0 out3 i4 = laws_toIntS_b3 (laws_toIntS_R3 (codeAt Try.f18 [1, 1, 0, 1, 0, 0]) N m (exK (finish (A_laws_toIntS) S_laws_toIntS Try.f18.results.toList) 0 ((A_laws_toIntS).shape 13) kX kO)) (fun (out3 : (List Int)) => kX ([.u, .u, .u, .val (.sl I) (.o .i) out3] ++ List.replicate 18 .u)) a0 out3 i4 := by kernel_rfl
theorem laws_toIntS_iter3 (N : Nat) (kX : St → Option ((List Int) × Unit)) (kO : Nat → St → Option ((List Int) × Unit)) : ∀ (n : Nat) (a0 : (List Int)) (out3 : (List Int)) (i4 : Int), laws_toIntS_R3 (codeAt Try.f18 [1, 1, 0, 1, 0, 0]) N n (exK (finish (A_laws_toIntS) S_laws_toIntS Try.f18.results.toList) 0 ((A_laws_toIntS).shape 13) kX kO) a0 out3 i4 = laws_toIntS_l3 N (fun (out3 : (List Int)) => kX ([.u, .u, .u, .val (.sl I) (.o .i) out3] ++ List.replicate 18 .u)) n a0 out3 i4
  | 0, _, _, _ => rfl
  | m + 1, a0, out3, i4 => by
    have hrec : laws_toIntS_R3 (codeAt Try.f18 [1, 1, 0, 1, 0, 0]) N m (exK (finish (A_laws_toIntS) S_laws_toIntS Try.f18.results.toList) 0 ((A_laws_toIntS).shape 13) kX kO) = (laws_toIntS_l3 N (fun (out3 : (List Int)) => kX ([.u, .u, .u, .val (.sl I) (.o .i) out3] ++ List.replicate 18 .u)) m) := (funext fun a0 => (funext fun out3 => (funext fun i4 => laws_toIntS_iter3 N kX kO m a0 out3 i4)))
    refine (laws_toIntS_step3 N m kX kO a0 out3 i4).trans ?_
    rw [hrec]
    rfl
theorem laws_toIntS_after3 (N : Nat) (out3 : (List Int)) : (fun st' => run (A_laws_toIntS) N (codeAt Try.f18 [1, 1, 1]) st' (finish (A_laws_toIntS) S_laws_toIntS Try.f18.results.toList)) ([.u, .u, .u, .val (.sl I) (.o .i) out3] ++ List.replicate 18 .u) = laws_toIntS_a3 out3 := by kernel_rfl
theorem laws_toIntS_in3 (N : Nat) (a0 : (List Int)) (out3 : (List Int)) (i4 : Int) : laws_toIntS_R3 (codeAt Try.f18 [1, 1, 0, 1, 0, 0]) N N (blockK 0 (seqK ((A_laws_toIntS).shape 13) (run (A_laws_toIntS) N (codeAt Try.f18 [1, 1, 1])) (finish (A_laws_toIntS) S_laws_toIntS Try.f18.results.toList))) a0 out3 i4 = laws_toIntS_F3 N a0 out3 i4 :=
  have h : (fun (out3 : (List Int)) => (fun st' => run (A_laws_toIntS) N (codeAt Try.f18 [1, 1, 1]) st' (finish (A_laws_toIntS) S_laws_toIntS Try.f18.results.toList)) ([.u, .u, .u, .val (.sl I) (.o .i) out3] ++ List.replicate 18 .u)) = (laws_toIntS_a3) := (funext fun out3 => laws_toIntS_after3 N out3)
  have e : laws_toIntS_R3 (codeAt Try.f18 [1, 1, 0, 1, 0, 0]) N N (blockK 0 (seqK ((A_laws_toIntS).shape 13) (run (A_laws_toIntS) N (codeAt Try.f18 [1, 1, 1])) (finish (A_laws_toIntS) S_laws_toIntS Try.f18.results.toList))) a0 out3 i4 = laws_toIntS_R3 (codeAt Try.f18 [1, 1, 0, 1, 0, 0]) N N (exK (finish (A_laws_toIntS) S_laws_toIntS Try.f18.results.toList) 0 ((A_laws_toIntS).shape 13) (fun st' => run (A_laws_toIntS) N (codeAt Try.f18 [1, 1, 1]) st' (finish (A_laws_toIntS) S_laws_toIntS Try.f18.results.toList)) (fun j st => (blockK 0 (seqK ((A_laws_toIntS).shape 13) (run (A_laws_toIntS) N (codeAt Try.f18 [1, 1, 1])) (finish (A_laws_toIntS) S_laws_toIntS Try.f18.results.toList))) (.exit j) st)) a0 out3 i4 := iter_ex (fun st => by kernel_rfl) (fun st => by kernel_rfl)
  (e.trans (laws_toIntS_iter3 N (fun st' => run (A_laws_toIntS) N (codeAt Try.f18 [1, 1, 1]) st' (finish (A_laws_toIntS) S_laws_toIntS Try.f18.results.toList)) (fun j st => (blockK 0 (seqK ((A_laws_toIntS).shape 13) (run (A_laws_toIntS) N (codeAt Try.f18 [1, 1, 1])) (finish (A_laws_toIntS) S_laws_toIntS Try.f18.results.toList))) (.exit j) st) N a0 out3 i4)).trans (congrArg (fun k => laws_toIntS_l3 N k N a0 out3 i4) h)
theorem run0_laws_toIntS (N : Nat) (x : (S_laws_toIntS).a.den) : runF (A_laws_toIntS) N Try.f18 S_laws_toIntS x = (laws_toIntS_s (laws_toIntS_R3 (codeAt Try.f18 [1, 1, 0, 1, 0, 0]) N N (blockK 0 (seqK ((A_laws_toIntS).shape 13) (run (A_laws_toIntS) N (codeAt Try.f18 [1, 1, 1])) (finish (A_laws_toIntS) S_laws_toIntS Try.f18.results.toList)))) x.1) := by kernel_rfl
theorem run_laws_toIntS (N : Nat) (x : (S_laws_toIntS).a.den) : runF (A_laws_toIntS) N Try.f18 S_laws_toIntS x = laws_toIntS N x.1 := by
  refine (run0_laws_toIntS N x).trans ?_
  rw [(funext fun a0 => (funext fun out3 => (funext fun i4 => laws_toIntS_in3 N a0 out3 i4)))]
  rfl
theorem fn_laws_toIntS : FnOk Try.prog 18 := ⟨_, Try.func18, by kernel_rfl, by kernel_rfl⟩
theorem good_laws_toIntS : Gx.Good Try.prog 18 S_laws_toIntS := good_of_run Try.func18 (of_decide_eq_true (by kernel_rfl)) fun x r h => ⟨A_laws_toIntS, big, mkCfg_ok tabOk, mkCfg_sigs (show SigsOk Try.prog [] from trivial), (run_laws_toIntS big x).trans h⟩

/-! spec_l28End -/
def spec_l28End_b3 (rec : (List Int) → Int → Int → Option (Int × Unit)) (k : Option (Int × Unit)) (w0 : (List Int)) (open5 : Int) (i6 : Int) : Option (Int × Unit) :=
  cond (decide (i6 < (w0.length : Int)))
  ((atI w0 i6).bind fun xq1 =>
  cond (decide (xq1 = (-1 : Int)))
  (cond (decide ((IntKind.i64.wrap (open5 + (1 : Int))) = (0 : Int)))
  (some (IntKind.i64.wrap (i6 + (1 : Int)), (())))
  (rec w0 (IntKind.i64.wrap (open5 + (1 : Int))) (IntKind.i64.wrap (i6 + (1 : Int)))))
  ((atI w0 i6).bind fun xq2 =>
  cond (decide (xq2 = (-2 : Int)))
  (cond (decide ((IntKind.i64.wrap (open5 + (1 : Int))) = (0 : Int)))
  (some (IntKind.i64.wrap (i6 + (1 : Int)), (())))
  (rec w0 (IntKind.i64.wrap (open5 + (1 : Int))) (IntKind.i64.wrap (i6 + (1 : Int)))))
  ((atI w0 i6).bind fun xq3 =>
  (spec_l1In xq3 (0 : Int) (4 : Int)).bind fun rq4 =>
  cond rq4.1
  (cond (decide ((IntKind.i64.wrap (open5 - (1 : Int))) = (0 : Int)))
  (some (IntKind.i64.wrap (i6 + (1 : Int)), (())))
  (rec w0 (IntKind.i64.wrap (open5 - (1 : Int))) (IntKind.i64.wrap (i6 + (1 : Int)))))
  (some ((-1 : Int), (()))))))
  (k)
def spec_l28End_a3 : Option (Int × Unit) :=
  some ((-1 : Int), (()))
def spec_l28End_s (L3 : (List Int) → Int → Int → Option (Int × Unit)) (w_0 : (List Int)) (from_1 : Int) : Option (Int × Unit) :=
  L3 w_0 (1 : Int) from_1
def spec_l28End_l3 (N : Nat) (k : Option (Int × Unit)) : Nat → (List Int) → Int → Int → Option (Int × Unit)
  | 0, _, _, _ => none
  | m + 1, w0, open5, i6 => spec_l28End_b3 (spec_l28End_l3 N k m) k w0 open5 i6
def spec_l28End_F3 (N : Nat) (w0 : (List Int)) (open5 : Int) (i6 : Int) : Option (Int × Unit) := spec_l28End_l3 N (spec_l28End_a3) N w0 open5 i6
def spec_l28End (N : Nat) (w_0 : (List Int)) (from_1 : Int) : Option (Int × Unit) := spec_l28End_s (spec_l28End_F3 N) w_0 from_1
def S_spec_l28End : Sig := { a := (.pair (.sl I) (.pair I .unit)), md := [0, 0], mf := [], m := .unit, r := I, rf := .i, f := fun x => spec_l28End big x.1 x.2.1 }
def A_spec_l28End : Cfg := mkCfg tab [(46, S_spec_l1In)] [(6, [.as (.sl I) .i, .drop, .drop, .drop, .drop, .as I .i, .as I .i]), (25, [])]
def spec_l28End_R3 (cd : Code) (N n : Nat) (K : Ex → St → Option (Int × Unit)) (w0 : (List Int)) (open5 : Int) (i6 : Int) : Option (Int × Unit) := iter ((A_spec_l28End).shape 6) (run (A_spec_l28End) N cd) n ([.val (.sl I) .i w0, .u, .u, .u, .u, .val I .i open5, .val I .i i6] ++ List.replicate 34 .u) K
theorem spec_l28End_step3 (N : Nat) (m : Nat) (kX : St → Option (Int × Unit)) (kO : Nat → St → Option (Int × Unit)) (w0 : (List Int)) (open5 : Int) (i6 : Int) : spec_l28End_R3 (codeAt Try.f69 [1, 1, 0, 1, 0, 0]) N (m + 1) (exK (finish (A_spec_l28End) S_spec_l28End Try.f69.results.toList) 0 ((A_spec_l28End).shape 25) kX kO) w0 open5 i6 = spec_l28End_b3 (spec_l28End_R3 (codeAt Try.f69 [1, 1, 0, 1, 0, 0]) N m (exK (finish (A_spec_l28End) S_spec_l28End Try.f69.results.toList) 0 ((A_spec_l28End).shape 25) kX kO)) (kX ([] ++ List.replicate 41 .u)) w0 open5 i6 := by kernel_rfl
theorem spec_l28End_iter3 (N : Nat) (kX : St → Option (Int × Unit)) (kO : Nat → St → Option (Int × Unit)) : ∀ (n : Nat) (w0 : (List Int)) (open5 : Int) (i6 : Int), spec_l28End_R3 (codeAt Try.f69 [1, 1, 0, 1, 0, 0]) N n (exK (finish (A_spec_l28End) S_spec_l28End Try.f69.results.toList) 0 ((A_spec_l28End).shape 25) kX kO) w0 open5 i6 = spec_l28End_l3 N (kX ([] ++ List.replicate 41 .u)) n w0 open5 i6
  | 0, _, _, _ => rfl
  | m + 1, w0, open5, i6 => by
    have hrec : spec_l28End_R3 (codeAt Try.f69 [1, 1, 0, 1, 0, 0]) N m (exK (finish (A_spec_l28End) S_spec_l28End Try.f69.results.toList) 0 ((A_spec_l28End).shape 25) kX kO) = (spec_l28End_l3 N (kX ([] ++ List.replicate 41 .u)) m) := (funext fun w0 => (funext fun open5 => (funext fun i6 => spec_l28End_iter3 N kX kO m w0 open5 i6)))
    refine (spec_l28End_step3 N m kX kO w0 open5 i6).trans ?_
    rw [hrec]
    rfl
theorem spec_l28End_after3 (N : Nat) : (fun st' => run (A_spec_l28End) N (codeAt Try.f69 [1, 1, 1]) st' (finish (A_spec_l28End) S_spec_l28End Try.f69.results.toList)) ([] ++ List.replicate 41 .u) = spec_l28End_a3 := by kernel_rfl
theorem spec_l28End_in3 (N : Nat) (w0 : (List Int)) (open5 : Int) (i6 : Int) : spec_l28End_R3 (codeAt Try.f69 [1, 1, 0, 1, 0, 0]) N N (blockK 0 (seqK ((A_spec_l28End).shape 25) (run (A_spec_l28End) N (codeAt Try.f69 [1, 1, 1])) (finish (A_spec_l28End) S_spec_l28End Try.f69.results.toList))) w0 open5 i6 = spec_l28End_F3 N w0 open5 i6 :=
  have h : ((fun st' => run (A_spec_l28End) N (codeAt Try.f69 [1, 1, 1]) st' (finish (A_spec_l28End) S_spec_l28End Try.f69.results.toList)) ([] ++ List.replicate 41 .u)) = (spec_l28End_a3) := spec_l28End_after3 N
  have e : spec_l28End_R3 (codeAt Try.f69 [1, 1, 0, 1, 0, 0]) N N (blockK 0 (seqK ((A_spec_l28End).shape 25) (run (A_spec_l28End) N (codeAt Try.f69 [1, 1, 1])) (finish (A_spec_l28End) S_spec_l28End Try.f69.results.toList))) w0 open5 i6 = spec_l28End_R3 (codeAt Try.f69 [1, 1, 0, 1, 0, 0]) N N (exK (finish (A_spec_l28End) S_spec_l28End Try.f69.results.toList) 0 ((A_spec_l28End).shape 25) (fun st' => run (A_spec_l28End) N (codeAt Try.f69 [1, 1, 1]) st' (finish (A_spec_l28End) S_spec_l28End Try.f69.results.toList)) (fun j st => (blockK 0 (seqK ((A_spec_l28End).shape 25) (run (A_spec_l28End) N (codeAt Try.f69 [1, 1, 1])) (finish (A_spec_l28End) S_spec_l28End Try.f69.results.toList))) (.exit j) st)) w0 open5 i6 := iter_ex (fun st => by kernel_rfl) (fun st => by kernel_rfl)
  (e.trans (spec_l28End_iter3 N (fun st' => run (A_spec_l28End) N (codeAt Try.f69 [1, 1, 1]) st' (finish (A_spec_l28End) S_spec_l28End Try.f69.results.toList)) (fun j st => (blockK 0 (seqK ((A_spec_l28End).shape 25) (run (A_spec_l28End) N (codeAt Try.f69 [1, 1, 1])) (finish (A_spec_l28End) S_spec_l28End Try.f69.results.toList))) (.exit j) st) N w0 open5 i6)).trans (congrArg (fun k => spec_l28End_l3 N k N w0 open5 i6) h)
theorem run0_spec_l28End (N : Nat) (x : (S_spec_l28End).a.den) : runF (A_spec_l28End) N Try.f69 S_spec_l28End x = (spec_l28End_s (spec_l28End_R3 (codeAt Try.f69 [1, 1, 0, 1, 0, 0]) N N (blockK 0 (seqK ((A_spec_l28End).shape 25) (run (A_spec_l28End) N (codeAt Try.f69 [1, 1, 1])) (finish (A_spec_l28End) S_spec_l28End Try.f69.results.toList)))) x.1 x.2.1) := by kernel_rfl
theorem run_spec_l28End (N : Nat) (x : (S_spec_l28End).a.den) : runF (A_spec_l28End) N Try.f69 S_spec_l28End x = spec_l28End N x.1 x.2.1 := by
  refine (run0_spec_l28End N x).trans ?_
  rw [(funext fun w0 => (funext fun open5 => (funext fun i6 => spec_l28End_in3 N w0 open5 i6)))]
  rfl
theorem fn_spec_l28End : FnOk Try.prog 69 := ⟨_, Try.func69, by kernel_rfl, by kernel_rfl⟩
theorem good_spec_l28End : Gx.Good Try.prog 69 S_spec_l28End := good_of_run Try.func69 (of_decide_eq_true (by kernel_rfl)) fun x r h => ⟨A_spec_l28End, big, mkCfg_ok tabOk, mkCfg_sigs (show SigsOk Try.prog [(46, S_spec_l1In)] from ⟨⟨fn_spec_l1In, good_spec_l1In⟩, trivial⟩), (run_spec_l28End big x).trans h⟩

/-! spec_l28Good -/
def spec_l28Good_s (w_0 : (List Int)) : Option (Bool × Unit) :=
  cond (decide ((w_0.length : Int) ≤ (40 : Int)))
  ((spec_l28End big w_0 (0 : Int)).bind fun rq1 =>
  cond (decide (rq1.1 = (w_0.length : Int)))
  (some (decide ((0 : Int) < (w_0.length : Int)), (())))
  (some (false, (()))))
  (some (false, (())))
def spec_l28Good (w_0 : (List Int)) : Option (Bool × Unit) := spec_l28Good_s w_0
def S_spec_l28Good : Sig := { a := (.pair (.sl I) .unit), md := [0], mf := [], m := .unit, r := .bool, rf := .i, f := fun x => spec_l28Good x.1 }
def A_spec_l28Good : Cfg := mkCfg tab [(69, S_spec_l28End)] []
theorem run_spec_l28Good (N : Nat) (x : (S_spec_l28Good).a.den) : runF (A_spec_l28Good) N Try.f48 S_spec_l28Good x = spec_l28Good x.1 := by kernel_rfl
theorem fn_spec_l28Good : FnOk Try.prog 48 := ⟨_, Try.func48, by kernel_rfl, by kernel_rfl⟩
theorem good_spec_l28Good : Gx.Good Try.prog 48 S_spec_l28Good := good_of_run Try.func48 (of_decide_eq_true (by kernel_rfl)) fun x r h => ⟨A_spec_l28Good, big, mkCfg_ok tabOk, mkCfg_sigs (show SigsOk Try.prog [(69, S_spec_l28End)] from ⟨⟨fn_spec_l28End, good_spec_l28End⟩, trivial⟩), (run_spec_l28Good big x).trans h⟩

/-! spec_IsWord -/
def spec_IsWord_s (w_0 : (List Int)) : Option (Bool × Unit) :=
  (spec_l28Good w_0).bind fun rq1 =>
  some (rq1.1, (()))
def spec_IsWord (w_0 : (List Int)) : Option (Bool × Unit) := spec_IsWord_s w_0
def S_spec_IsWord : Sig := { a := (.pair (.sl I) .unit), md := [0], mf := [], m := .unit, r := .bool, rf := .i, f := fun x => spec_IsWord x.1 }
def A_spec_IsWord : Cfg := mkCfg tab [(48, S_spec_l28Good)] []
theorem run_spec_IsWord (N : Nat) (x : (S_spec_IsWord).a.den) : runF (A_spec_IsWord) N Try.f17 S_spec_IsWord x = spec_IsWord x.1 := by kernel_rfl
theorem fn_spec_IsWord : FnOk Try.prog 17 := ⟨_, Try.func17, by kernel_rfl, by kernel_rfl⟩
theorem good_spec_IsWord : Gx.Good Try.prog 17 S_spec_IsWord := good_of_run Try.func17 (of_decide_eq_true (by kernel_rfl)) fun x r h => ⟨A_spec_IsWord, big, mkCfg_ok tabOk, mkCfg_sigs (show SigsOk Try.prog [(48, S_spec_l28Good)] from ⟨⟨fn_spec_l28Good, good_spec_l28Good⟩, trivial⟩), (run_spec_IsWord big x).trans h⟩

/-! impl_wordEnd -/
def impl_wordEnd_b2 (rec : (List Int) → Int → Int → Option (Int × Unit)) (k : Int → Option (Int × Unit)) (w0 : (List Int)) (at1 : Int) (need5 : Int) : Option (Int × Unit) :=
  cond (decide ((0 : Int) < need5))
  (cond (decide ((w0.length : Int) ≤ at1))
  (some ((-1 : Int), (())))
  ((atI w0 at1).bind fun xq1 =>
  cond (decide (xq1 < (-2 : Int)))
  (some ((-1 : Int), (())))
  ((atI w0 at1).bind fun xq2 =>
  cond (decide ((5 : Int) ≤ xq2))
  (some ((-1 : Int), (())))
  ((atI w0 at1).bind fun xq3 =>
  cond (decide ((0 : Int) ≤ xq3))
  (rec w0 (IntKind.i64.wrap (at1 + (1 : Int))) (IntKind.i64.wrap (need5 - (1 : Int))))
  (rec w0 (IntKind.i64.wrap (at1 + (1 : Int))) (IntKind.i64.wrap (need5 + (1 : Int))))))))
  (k at1)
def impl_wordEnd_a2 (at1 : Int) : Option (Int × Unit) :=
  some (at1, (()))
def impl_wordEnd_s (L2 : (List Int) → Int → Int → Option (Int × Unit)) (w_0 : (List Int)) (at_1 : Int) : Option (Int × Unit) :=
  L2 w_0 at_1 (1 : Int)
def impl_wordEnd_l2 (N : Nat) (k : Int → Option (Int × Unit)) : Nat → (List Int) → Int → Int → Option (Int × Unit)
  | 0, _, _, _ => none
  | m + 1, w0, at1, need5 => impl_wordEnd_b2 (impl_wordEnd_l2 N k m) k w0 at1 need5
def impl_wordEnd_F2 (N : Nat) (w0 : (List Int)) (at1 : Int) (need5 : Int) : Option (Int × Unit) := impl_wordEnd_l2 N (impl_wordEnd_a2) N w0 at1 need5
def impl_wordEnd (N : Nat) (w_0 : (List Int)) (at_1 : Int) : Option (Int × Unit) := impl_wordEnd_s (impl_wordEnd_F2 N) w_0 at_1
def S_impl_wordEnd : Sig := { a := (.pair (.sl I) (.pair I .unit)), md := [0, 0], mf := [], m := .unit, r := I, rf := .i, f := fun x => impl_wordEnd big x.1 x.2.1 }
def A_impl_wordEnd : Cfg := mkCfg tab [] [(4, [.as (.sl I) .i, .as I .i, .drop, .drop, .drop, .as I .i]), (19, [.drop, .as I .i])]
def impl_wordEnd_R2 (cd : Code) (N n : Nat) (K : Ex → St → Option (Int × Unit)) (w0 : (List Int)) (at1 : Int) (need5 : Int) : Option (Int × Unit) := iter ((A_impl_wordEnd).shape 4) (run (A_impl_wordEnd) N cd) n ([.val (.sl I) .i w0, .val I .i at1, .u, .u, .u, .val I .i need5] ++ List.replicate 32 .u) K
theorem impl_wordEnd_step2 (N : Nat) (m : Nat) (kX : St → Option (Int × Unit)) (kO : Nat → St → Option (Int × Unit)) (w0 : (List Int)) (at1 : Int) (need5 : Int) : impl_wordEnd_R2 (codeAt Try.f49 [1, 0, 1, 0, 0]) N (m + 1) (exK (finish (A_impl_wordEnd) S_impl_wordEnd Try.f49.results.toList) 0 ((A_impl_wordEnd).shape 19) kX kO) w0 at1 need5 = impl_wordEnd_b2 (impl_wordEnd_R2 (codeAt Try.f49 [1, 0, 1, 0, 0]) N m (exK (finish (A_impl_wordEnd) S_impl_wordEnd Try.f49.results.toList) 0 ((A_impl_wordEnd).shape 19) kX kO)) (fun (at1 : Int) => kX ([.u, .val I .i at1] ++ List.replicate 36 .u)) w0 at1 need5 := by kernel_rfl
theorem impl_wordEnd_iter2 (N : Nat) (kX : St → Option (Int × Unit)) (kO : Nat → St → Option (Int × Unit)) : ∀ (n : Nat) (w0 : (List Int)) (at1 : Int) (need5 : Int), impl_wordEnd_R2 (codeAt Try.f49 [1, 0, 1, 0, 0]) N n (exK (finish (A_impl_wordEnd) S_impl_wordEnd Try.f49.results.toList) 0 ((A_impl_wordEnd).shape 19) kX kO) w0 at1 need5 = impl_wordEnd_l2 N (fun (at1 : Int) => kX ([.u, .val I .i at1] ++ List.replicate 36 .u)) n w0 at1 need5
  | 0, _, _, _ => rfl
  | m + 1, w0, at1, need5 => by
    have hrec : impl_wordEnd_R2 (codeAt Try.f49 [1, 0, 1, 0, 0]) N m (exK (finish (A_impl_wordEnd) S_impl_wordEnd Try.f49.results.toList) 0 ((A_impl_wordEnd).shape 19) kX kO) = (impl_wordEnd_l2 N (fun (at1 : Int) => kX ([.u, .val I .i at1] ++ List.replicate 36 .u)) m) := (funext fun w0 => (funext fun at1 => (funext fun need5 => impl_wordEnd_iter2 N kX kO m w0 at1 need5)))
    refine (impl_wordEnd_step2 N m kX kO w0 at1 need5).trans ?_
    rw [hrec]
    rfl
theorem impl_wordEnd_after2 (N : Nat) (at1 : Int) : (fun st' => run (A_impl_wordEnd) N (codeAt Try.f49 [1, 1]) st' (finish (A_impl_wordEnd) S_impl_wordEnd Try.f49.results.toList)) ([.u, .val I .i at1] ++ List.replicate 36 .u) = impl_wordEnd_a2 at1 := by kernel_rfl
theorem impl_wordEnd_in2 (N : Nat) (w0 : (List Int)) (at1 : Int) (need5 : Int) : impl_wordEnd_R2 (codeAt Try.f49 [1, 0, 1, 0, 0]) N N (blockK 0 (seqK ((A_impl_wordEnd).shape 19) (run (A_impl_wordEnd) N (codeAt Try.f49 [1, 1])) (finish (A_impl_wordEnd) S_impl_wordEnd Try.f49.results.toList))) w0 at1 need5 = impl_wordEnd_F2 N w0 at1 need5 :=
  have h : (fun (at1 : Int) => (fun st' => run (A_impl_wordEnd) N (codeAt Try.f49 [1, 1]) st' (finish (A_impl_wordEnd) S_impl_wordEnd Try.f49.results.toList)) ([.u, .val I .i at1] ++ List.replicate 36 .u)) = (impl_wordEnd_a2) := (funext fun at1 => impl_wordEnd_after2 N at1)
  have e : impl_wordEnd_R2 (codeAt Try.f49 [1, 0, 1, 0, 0]) N N (blockK 0 (seqK ((A_impl_wordEnd).shape 19) (run (A_impl_wordEnd) N (codeAt Try.f49 [1, 1])) (finish (A_impl_wordEnd) S_impl_wordEnd Try.f49.results.toList))) w0 at1 need5 = impl_wordEnd_R2 (codeAt Try.f49 [1, 0, 1, 0, 0]) N N (exK (finish (A_impl_wordEnd) S_impl_wordEnd Try.f49.results.toList) 0 ((A_impl_wordEnd).shape 19) (fun st' => run (A_impl_wordEnd) N (codeAt Try.f49 [1, 1]) st' (finish (A_impl_wordEnd) S_impl_wordEnd Try.f49.results.toList)) (fun j st => (blockK 0 (seqK ((A_impl_wordEnd).shape 19) (run (A_impl_wordEnd) N (codeAt Try.f49 [1, 1])) (finish (A_impl_wordEnd) S_impl_wordEnd Try.f49.results.toList))) (.exit j) st)) w0 at1 need5 := iter_ex (fun st => by kernel_rfl) (fun st => by kernel_rfl)
  (e.trans (impl_wordEnd_iter2 N (fun st' => run (A_impl_wordEnd) N (codeAt Try.f49 [1, 1]) st' (finish (A_impl_wordEnd) S_impl_wordEnd Try.f49.results.toList)) (fun j st => (blockK 0 (seqK ((A_impl_wordEnd).shape 19) (run (A_impl_wordEnd) N (codeAt Try.f49 [1, 1])) (finish (A_impl_wordEnd) S_impl_wordEnd Try.f49.results.toList))) (.exit j) st) N w0 at1 need5)).trans (congrArg (fun k => impl_wordEnd_l2 N k N w0 at1 need5) h)
theorem run0_impl_wordEnd (N : Nat) (x : (S_impl_wordEnd).a.den) : runF (A_impl_wordEnd) N Try.f49 S_impl_wordEnd x = (impl_wordEnd_s (impl_wordEnd_R2 (codeAt Try.f49 [1, 0, 1, 0, 0]) N N (blockK 0 (seqK ((A_impl_wordEnd).shape 19) (run (A_impl_wordEnd) N (codeAt Try.f49 [1, 1])) (finish (A_impl_wordEnd) S_impl_wordEnd Try.f49.results.toList)))) x.1 x.2.1) := by kernel_rfl
theorem run_impl_wordEnd (N : Nat) (x : (S_impl_wordEnd).a.den) : runF (A_impl_wordEnd) N Try.f49 S_impl_wordEnd x = impl_wordEnd N x.1 x.2.1 := by
  refine (run0_impl_wordEnd N x).trans ?_
  rw [(funext fun w0 => (funext fun at1 => (funext fun need5 => impl_wordEnd_in2 N w0 at1 need5)))]
  rfl
theorem fn_impl_wordEnd : FnOk Try.prog 49 := ⟨_, Try.func49, by kernel_rfl, by kernel_rfl⟩
theorem good_impl_wordEnd : Gx.Good Try.prog 49 S_impl_wordEnd := good_of_run Try.func49 (of_decide_eq_true (by kernel_rfl)) fun x r h => ⟨A_impl_wordEnd, big, mkCfg_ok tabOk, mkCfg_sigs (show SigsOk Try.prog [] from trivial), (run_impl_wordEnd big x).trans h⟩

/-! impl_IsWord -/
def impl_IsWord_s (w_0 : (List Int)) : Option (Bool × Unit) :=
  cond (decide ((w_0.length : Int) ≤ (40 : Int)))
  ((impl_wordEnd big w_0 (0 : Int)).bind fun rq1 =>
  some (decide (rq1.1 = (w_0.length : Int)), (())))
  (some (false, (())))
def impl_IsWord (w_0 : (List Int)) : Option (Bool × Unit) := impl_IsWord_s w_0
def S_impl_IsWord : Sig := { a := (.pair (.sl I) .unit), md := [0], mf := [], m := .unit, r := .bool, rf := .i, f := fun x => impl_IsWord x.1 }
def A_impl_IsWord : Cfg := mkCfg tab [(49, S_impl_wordEnd)] []
theorem run_impl_IsWord (N : Nat) (x : (S_impl_IsWord).a.den) : runF (A_impl_IsWord) N Try.f19 S_impl_IsWord x = impl_IsWord x.1 := by kernel_rfl
theorem fn_impl_IsWord : FnOk Try.prog 19 := ⟨_, Try.func19, by kernel_rfl, by kernel_rfl⟩
theorem good_impl_IsWord : Gx.Good Try.prog 19 S_impl_IsWord := good_of_run Try.func19 (of_decide_eq_true (by kernel_rfl)) fun x r h => ⟨A_impl_IsWord, big, mkCfg_ok tabOk, mkCfg_sigs (show SigsOk Try.prog [(49, S_impl_wordEnd)] from ⟨⟨fn_impl_wordEnd, good_impl_wordEnd⟩, trivial⟩), (run_impl_IsWord big x).trans h⟩

/-! laws_eqIntS -/
def laws_eqIntS_b4 (rec : (List Int) → (List Int) → Int → Option (Bool × Unit)) (k : Option (Bool × Unit)) (a0 : (List Int)) (b1 : (List Int)) (i5 : Int) : Option (Bool × Unit) :=
  cond (decide (i5 < (a0.length : Int)))
  ((atI a0 i5).bind fun xq1 =>
  (atI b1 i5).bind fun xq2 =>
  cond (decide (xq1 ≠ xq2))
  (some (false, (())))
  (rec a0 b1 (IntKind.i64.wrap (i5 + (1 : Int)))))
  (k)
def laws_eqIntS_a4 : Option (Bool × Unit) :=
  some (true, (()))
def laws_eqIntS_s (L4 : (List Int) → (List Int) → Int → Option (Bool × Unit)) (a_0 : (List Int)) (b_1 : (List Int)) : Option (Bool × Unit) :=
  cond (decide ((a_0.length : Int) ≠ (b_1.length : Int)))
  (some (false, (())))
  (L4 a_0 b_1 (0 : Int))
def laws_eqIntS_l4 (N : Nat) (k : Option (Bool × Unit)) : Nat → (List Int) → (List Int) → Int → Option (Bool × Unit)
  | 0, _, _, _ => none
  | m + 1, a0, b1, i5 => laws_eqIntS_b4 (laws_eqIntS_l4 N k m) k a0 b1 i5
def laws_eqIntS_F4 (N : Nat) (a0 : (List Int)) (b1 : (List Int)) (i5 : Int) : Option (Bool × Unit) := laws_eqIntS_l4 N (laws_eqIntS_a4) N a0 b1 i5
def laws_eqIntS (N : Nat) (a_0 : (List Int)) (b_1 : (List Int)) : Option (Bool × Unit) := laws_eqIntS_s (laws_eqIntS_F4 N) a_0 b_1
def S_laws_eqIntS : Sig := { a := (.pair (.sl I) (.pair (.sl I) .unit)), md := [0, 0], mf := [], m := .unit, r := .bool, rf := .i, f := fun x => laws_eqIntS big x.1 x.2.1 }
def A_laws_eqIntS : Cfg := mkCfg tab [] [(8, [.as (.sl I) .i, .as (.sl I) .i, .drop, .drop, .drop, .as I .i]), (17, [])]
def laws_eqIntS_R4 (cd : Code) (N n : Nat) (K : Ex → St → Option (Bool × Unit)) (a0 : (List Int)) (b1 : (List Int)) (i5 : Int) : Option (Bool × Unit) := iter ((A_laws_eqIntS).shape 8) (run (A_laws_eqIntS) N cd) n ([.val (.sl I) .i a0, .val (.sl I) .i b1, .u, .u, .u, .val I .i i5] ++ List.replicate 20 .u) K
theorem laws_eqIntS_step4 (N : Nat) (m : Nat) (kX : St → Option (Bool × Unit)) (kO : Nat → St → Option (Bool × Unit)) (a0 : (List Int)) (b1 : (List Int)) (i5 : Int) : laws_eqIntS_R4 (codeAt Try.f20 [1, 1, 0, 1, 0, 0]) N (m + 1) (exK (finish (A_laws_eqIntS) S_laws_eqIntS Try.f20.results.toList) 0 ((A_laws_eqIntS).shape 17) kX kO) a0 b1 i5 = laws_eqIntS_b4 (laws_eqIntS_R4 (codeAt Try.f20 [1, 1, 0, 1, 0, 0]) N m (exK (finish (A_laws_eqIntS) S_laws_eqIntS Try.f20.results.toList) 0 ((A_laws_eqIntS).shape 17) kX kO)) (kX ([] ++ List.replicate 26 .u)) a0 b1 i5 := by kernel_rfl
theorem laws_eqIntS_iter4 (N : Nat) (kX : St → Option (Bool × Unit)) (kO : Nat → St → Option (Bool × Unit)) : ∀ (n : Nat) (a0 : (List Int)) (b1 : (List Int)) (i5 : Int), laws_eqIntS_R4 (codeAt Try.f20 [1, 1, 0, 1, 0, 0]) N n (exK (finish (A_laws_eqIntS) S_laws_eqIntS Try.f20.results.toList) 0 ((A_laws_eqIntS).shape 17) kX kO) a0 b1 i5 = laws_eqIntS_l4 N (kX ([] ++ List.replicate 26 .u)) n a0 b1 i5
  | 0, _, _, _ => rfl
  | m + 1, a0, b1, i5 => by
    have hrec : laws_eqIntS_R4 (codeAt Try.f20 [1, 1, 0, 1, 0, 0]) N m (exK (finish (A_laws_eqIntS) S_laws_eqIntS Try.f20.results.toList) 0 ((A_laws_eqIntS).shape 17) kX kO) = (laws_eqIntS_l4 N (kX ([] ++ List.replicate 26 .u)) m) := (funext fun a0 => (funext fun b1 => (funext fun i5 => laws_eqIntS_iter4 N kX kO m a0 b1 i5)))
    refine (laws_eqIntS_step4 N m kX kO a0 b1 i5).trans ?_
    rw [hrec]
    rfl
theorem laws_eqIntS_after4 (N : Nat) : (fun st' => run (A_laws_eqIntS) N (codeAt Try.f20 [1, 1, 1]) st' (finish (A_laws_eqIntS) S_laws_eqIntS Try.f20.results.toList)) ([] ++ List.replicate 26 .u) = laws_eqIntS_a4 := by kernel_rfl
theorem laws_eqIntS_in4 (N : Nat) (a0 : (List Int)) (b1 : (List Int)) (i5 : Int) : laws_eqIntS_R4 (codeAt Try.f20 [1, 1, 0, 1, 0, 0]) N N (blockK 0 (seqK ((A_laws_eqIntS).shape 17) (run (A_laws_eqIntS) N (codeAt Try.f20 [1, 1, 1])) (finish (A_laws_eqIntS) S_laws_eqIntS Try.f20.results.toList))) a0 b1 i5 = laws_eqIntS_F4 N a0 b1 i5 :=
  have h : ((fun st' => run (A_laws_eqIntS) N (codeAt Try.f20 [1, 1, 1]) st' (finish (A_laws_eqIntS) S_laws_eqIntS Try.f20.results.toList)) ([] ++ List.replicate 26 .u)) = (laws_eqIntS_a4) := laws_eqIntS_after4 N
  have e : laws_eqIntS_R4 (codeAt Try.f20 [1, 1, 0, 1, 0, 0]) N N (blockK 0 (seqK ((A_laws_eqIntS).shape 17) (run (A_laws_eqIntS) N (codeAt Try.f20 [1, 1, 1])) (finish (A_laws_eqIntS) S_laws_eqIntS Try.f20.results.toList))) a0 b1 i5 = laws_eqIntS_R4 (codeAt Try.f20 [1, 1, 0, 1, 0, 0]) N N (exK (finish (A_laws_eqIntS) S_laws_eqIntS Try.f20.results.toList) 0 ((A_laws_eqIntS).shape 17) (fun st' => run (A_laws_eqIntS) N (codeAt Try.f20 [1, 1, 1]) st' (finish (A_laws_eqIntS) S_laws_eqIntS Try.f20.results.toList)) (fun j st => (blockK 0 (seqK ((A_laws_eqIntS).shape 17) (run (A_laws_eqIntS) N (codeAt Try.f20 [1, 1, 1])) (finish (A_laws_eqIntS) S_laws_eqIntS Try.f20.results.toList))) (.exit j) st)) a0 b1 i5 := iter_ex (fun st => by kernel_rfl) (fun st => by kernel_rfl)
  (e.trans (laws_eqIntS_iter4 N (fun st' => run (A_laws_eqIntS) N (codeAt Try.f20 [1, 1, 1]) st' (finish (A_laws_eqIntS) S_laws_eqIntS Try.f20.results.toList)) (fun j st => (blockK 0 (seqK ((A_laws_eqIntS).shape 17) (run (A_laws_eqIntS) N (codeAt Try.f20 [1, 1, 1])) (finish (A_laws_eqIntS) S_laws_eqIntS Try.f20.results.toList))) (.exit j) st) N a0 b1 i5)).trans (congrArg (fun k => laws_eqIntS_l4 N k N a0 b1 i5) h)
theorem run0_laws_eqIntS (N : Nat) (x : (S_laws_eqIntS).a.den) : runF (A_laws_eqIntS) N Try.f20 S_laws_eqIntS x = (laws_eqIntS_s (laws_eqIntS_R4 (codeAt Try.f20 [1, 1, 0, 1, 0, 0]) N N (blockK 0 (seqK ((A_laws_eqIntS).shape 17) (run (A_laws_eqIntS) N (codeAt Try.f20 [1, 1, 1])) (finish (A_laws_eqIntS) S_laws_eqIntS Try.f20.results.toList)))) x.1 x.2.1) := by kernel_rfl
theorem run_laws_eqIntS (N : Nat) (x : (S_laws_eqIntS).a.den) : runF (A_laws_eqIntS) N Try.f20 S_laws_eqIntS x = laws_eqIntS N x.1 x.2.1 := by
  refine (run0_laws_eqIntS N x).trans ?_
  rw [(funext fun a0 => (funext fun b1 => (funext fun i5 => laws_eqIntS_in4 N a0 b1 i5)))]
  rfl
theorem fn_laws_eqIntS : FnOk Try.prog 20 := ⟨_, Try.func20, by kernel_rfl, by kernel_rfl⟩
theorem good_laws_eqIntS : Gx.Good Try.prog 20 S_laws_eqIntS := good_of_run Try.func20 (of_decide_eq_true (by kernel_rfl)) fun x r h => ⟨A_laws_eqIntS, big, mkCfg_ok tabOk, mkCfg_sigs (show SigsOk Try.prog [] from trivial), (run_laws_eqIntS big x).trans h⟩

/-! laws_FnExactIsWord -/
def laws_FnExactIsWord_s (aW_0 : (List Int)) : Option (Bool × Unit) :=
  cond (decide ((1048576 : Int) < (aW_0.length : Int)))
  (some (true, (())))
  ((laws_toIntS big aW_0).bind fun rq1 =>
  (spec_IsWord rq1.1).bind fun rq2 =>
  (laws_toIntS big aW_0).bind fun rq3 =>
  (impl_IsWord rq3.1).bind fun rq4 =>
  cond (rq4.1 != rq2.1)
  (some (false, (())))
  ((laws_toIntS big aW_0).bind fun rq5 =>
  (laws_eqIntS big rq3.1 rq5.1).bind fun rq6 =>
  cond (!rq6.1)
  (some (false, (())))
  (some (true, (())))))
def laws_FnExactIsWord (aW_0 : (List Int)) : Option (Bool × Unit) := laws_FnExactIsWord_s aW_0
def S_laws_FnExactIsWord : Sig := { a := (.pair (.sl I) .unit), md := [0], mf := [], m := .unit, r := .bool, rf := .i, f := fun x => laws_FnExactIsWord x.1 }
def A_laws_FnExactIsWord : Cfg := mkCfg tab [(18, S_laws_toIntS), (17, S_spec_IsWord), (19, S_impl_IsWord), (20, S_laws_eqIntS)] []
theorem run_laws_FnExactIsWord (N : Nat) (x : (S_laws_FnExactIsWord).a.den) : runF (A_laws_FnExactIsWord) N Try.f4 S_laws_FnExactIsWord x = laws_FnExactIsWord x.1 := by kernel_rfl
theorem fn_laws_FnExactIsWord : FnOk Try.prog 4 := ⟨_, Try.func4, by kernel_rfl, by kernel_rfl⟩
theorem good_laws_FnExactIsWord : Gx.Good Try.prog 4 S_laws_FnExactIsWord := good_of_run Try.func4 (of_decide_eq_true (by kernel_rfl)) fun x r h => ⟨A_laws_FnExactIsWord, big, mkCfg_ok tabOk, mkCfg_sigs (show SigsOk Try.prog [(18, S_laws_toIntS), (17, S_spec_IsWord), (19, S_impl_IsWord), (20, S_laws_eqIntS)] from ⟨⟨fn_laws_toIntS, good_laws_toIntS⟩, ⟨fn_spec_IsWord, good_spec_IsWord⟩, ⟨fn_impl_IsWord, good_impl_IsWord⟩, ⟨fn_laws_eqIntS, good_laws_eqIntS⟩, trivial⟩), (run_laws_FnExactIsWord big x).trans h⟩

/-! spec_WordSize -/
def spec_WordSize_s (w_0 : (List Int)) : Option ((Int × (Bool × Unit)) × Unit) :=
  (spec_l28Good w_0).bind fun rq1 =>
  cond (!rq1.1)
  (some (((0 : Int), false, ()), (())))
  ((quoI IntKind.i64 (IntKind.i64.wrap ((w_0.length : Int) + (1 : Int))) (2 : Int)).bind fun xq2 =>
  some ((xq2, true, ()), (())))
def spec_WordSize (w_0 : (List Int)) : Option ((Int × (Bool × Unit)) × Unit) := spec_WordSize_s w_0
def S_spec_WordSize : Sig := { a := (.pair (.sl I) .unit), md := [0], mf := [], m := .unit, r := (.tup (.pair I (.pair .bool .unit))), rf := .i, f := fun x => spec_WordSize x.1 }
def A_spec_WordSize : Cfg := mkCfg tab [(48, S_spec_l28Good)] []
theorem run_spec_WordSize (N : Nat) (x : (S_spec_WordSize).a.den) : runF (A_spec_WordSize) N Try.f21 S_spec_WordSize x = spec_WordSize x.1 := by kernel_rfl
theorem fn_spec_WordSize : FnOk Try.prog 21 := ⟨_, Try.func21, by kernel_rfl, by kernel_rfl⟩
theorem good_spec_WordSize : Gx.Good Try.prog 21 S_spec_WordSize := good_of_run Try.func21 (of_decide_eq_true (by kernel_rfl)) fun x r h => ⟨A_spec_WordSize, big, mkCfg_ok tabOk, mkCfg_sigs (show SigsOk Try.prog [(48, S_spec_l28Good)] from ⟨⟨fn_spec_l28Good, good_spec_l28Good⟩, trivial⟩), (run_spec_WordSize big x).trans h⟩

/-! impl_WordSize -/
def impl_WordSize_s (w_0 : (List Int)) : Option ((Int × (Bool × Unit)) × Unit) :=
  (impl_IsWord w_0).bind fun rq1 =>
  cond (!rq1.1)
  (some (((0 : Int), false, ()), (())))
  ((quoI IntKind.i64 (IntKind.i64.wrap ((w_0.length : Int) + (1 : Int))) (2 : Int)).bind fun xq2 =>
  some ((xq2, true, ()), (())))
def impl_WordSize (w_0 : (List Int)) : Option ((Int × (Bool × Unit)) × Unit) := impl_WordSize_s w_0
def S_impl_WordSize : Sig := { a := (.pair (.sl I) .unit), md := [0], mf := [], m := .unit, r := (.tup (.pair I (.pair .bool .unit))), rf := .i, f := fun x => impl_WordSize x.1 }
def A_impl_WordSize : Cfg := mkCfg tab [(19, S_impl_IsWord)] []
theorem run_impl_WordSize (N : Nat) (x : (S_impl_WordSize).a.den) : runF (A_impl_WordSize) N Try.f22 S_impl_WordSize x = impl_WordSize x.1 := by kernel_rfl
theorem fn_impl_WordSize : FnOk Try.prog 22 := ⟨_, Try.func22, by kernel_rfl, by kernel_rfl⟩
theorem good_impl_WordSize : Gx.Good Try.prog 22 S_impl_WordSize := good_of_run Try.func22 (of_decide_eq_true (by kernel_rfl)) fun x r h => ⟨A_impl_WordSize, big, mkCfg_ok tabOk, mkCfg_sigs (show SigsOk Try.prog [(19, S_impl_IsWord)] from ⟨⟨fn_impl_IsWord, good_impl_IsWord⟩, trivial⟩), (run_impl_WordSize big x).trans h⟩

/-! laws_FnExactWordSize -/
def laws_FnExactWordSize_s (aW_0 : (List Int)) : Option (Bool × Unit) :=
  cond (decide ((1048576 : Int) < (aW_0.length : Int)))
  (some (true, (())))
  ((laws_toIntS big aW_0).bind fun rq1 =>
  (spec_WordSize rq1.1).bind fun rq2 =>
  (laws_toIntS big aW_0).bind fun rq3 =>
  (impl_WordSize rq3.1).bind fun rq4 =>
  cond (decide (rq4.1.1 ≠ rq2.1.1))
  (some (false, (())))
  (cond (rq4.1.2.1 != rq2.1.2.1)
  (some (false, (())))
  ((laws_toIntS big aW_0).bind fun rq5 =>
  (laws_eqIntS big rq3.1 rq5.1).bind fun rq6 =>
  cond (!rq6.1)
  (some (false, (())))
  (some (true, (()))))))
def laws_FnExactWordSize (aW_0 : (List Int)) : Option (Bool × Unit) := laws_FnExactWordSize_s aW_0
def S_laws_FnExactWordSize : Sig := { a := (.pair (.sl I) .unit), md := [0], mf := [], m := .unit, r := .bool, rf := .i, f := fun x => laws_FnExactWordSize x.1 }
def A_laws_FnExactWordSize : Cfg := mkCfg tab [(18, S_laws_toIntS), (21, S_spec_WordSize), (22, S_impl_WordSize), (20, S_laws_eqIntS)] []
theorem run_laws_FnExactWordSize (N : Nat) (x : (S_laws_FnExactWordSize).a.den) : runF (A_laws_FnExactWordSize) N Try.f5 S_laws_FnExactWordSize x = laws_FnExactWordSize x.1 := by kernel_rfl
theorem fn_laws_FnExactWordSize : FnOk Try.prog 5 := ⟨_, Try.func5, by kernel_rfl, by kernel_rfl⟩
theorem good_laws_FnExactWordSize : Gx.Good Try.prog 5 S_laws_FnExactWordSize := good_of_run Try.func5 (of_decide_eq_true (by kernel_rfl)) fun x r h => ⟨A_laws_FnExactWordSize, big, mkCfg_ok tabOk, mkCfg_sigs (show SigsOk Try.prog [(18, S_laws_toIntS), (21, S_spec_WordSize), (22, S_impl_WordSize), (20, S_laws_eqIntS)] from ⟨⟨fn_laws_toIntS, good_laws_toIntS⟩, ⟨fn_spec_WordSize, good_spec_WordSize⟩, ⟨fn_impl_WordSize, good_impl_WordSize⟩, ⟨fn_laws_eqIntS, good_laws_eqIntS⟩, trivial⟩), (run_laws_FnExactWordSize big x).trans h⟩

/-! laws_szBoolS -/
def laws_szBoolS_s (a_0 : (List Bool)) (left_1 : Int) : Option (Int × Unit) :=
  cond (decide ((IntKind.i64.wrap (left_1 - (a_0.length : Int))) < (0 : Int)))
  (some ((-1 : Int), (())))
  (some (IntKind.i64.wrap (left_1 - (a_0.length : Int)), (())))
def laws_szBoolS (a_0 : (List Bool)) (left_1 : Int) : Option (Int × Unit) := laws_szBoolS_s a_0 left_1
def S_laws_szBoolS : Sig := { a := (.pair (.sl .bool) (.pair I .unit)), md := [0, 0], mf := [], m := .unit, r := I, rf := .i, f := fun x => laws_szBoolS x.1 x.2.1 }
def A_laws_szBoolS : Cfg := mkCfg tab [] []
theorem run_laws_szBoolS (N : Nat) (x : (S_laws_szBoolS).a.den) : runF (A_laws_szBoolS) N Try.f50 S_laws_szBoolS x = laws_szBoolS x.1 x.2.1 := by kernel_rfl
theorem fn_laws_szBoolS : FnOk Try.prog 50 := ⟨_, Try.func50, by kernel_rfl, by kernel_rfl⟩
theorem good_laws_szBoolS : Gx.Good Try.prog 50 S_laws_szBoolS := good_of_run Try.func50 (of_decide_eq_true (by kernel_rfl)) fun x r h => ⟨A_laws_szBoolS, big, mkCfg_ok tabOk, mkCfg_sigs (show SigsOk Try.prog [] from trivial), (run_laws_szBoolS big x).trans h⟩

/-! laws_szBoolSS -/
def laws_szBoolSS_b5 (rec : (List (List Bool)) → Int → Int → Option (Int × Unit)) (k : Int → Option (Int × Unit)) (a0 : (List (List Bool))) (left1 : Int) (i5 : Int) : Option (Int × Unit) :=
  cond (decide (i5 < (a0.length : Int)))
  ((atI a0 i5).bind fun xq1 =>
  (laws_szBoolS xq1 left1).bind fun rq2 =>
  cond (decide (rq2.1 < (0 : Int)))
  (some ((-1 : Int), (())))
  (rec a0 rq2.1 (IntKind.i64.wrap (i5 + (1 : Int)))))
  (k left1)
def laws_szBoolSS_a5 (left1 : Int) : Option (Int × Unit) :=
  some (left1, (()))
def laws_szBoolSS_s (L5 : (List (List Bool)) → Int → Int → Option (Int × Unit)) (a_0 : (List (List Bool))) (left_1 : Int) : Option (Int × Unit) :=
  cond (decide ((IntKind.i64.wrap (left_1 - (a_0.length : Int))) < (0 : Int)))
  (some ((-1 : Int), (())))
  (L5 a_0 (IntKind.i64.wrap (left_1 - (a_0.length : Int))) (0 : Int))
def laws_szBoolSS_l5 (N : Nat) (k : Int → Option (Int × Unit)) : Nat → (List (List Bool)) → Int → Int → Option (Int × Unit)
  | 0, _, _, _ => none
  | m + 1, a0, left1, i5 => laws_szBoolSS_b5 (laws_szBoolSS_l5 N k m) k a0 left1 i5
def laws_szBoolSS_F5 (N : Nat) (a0 : (List (List Bool))) (left1 : Int) (i5 : Int) : Option (Int × Unit) := laws_szBoolSS_l5 N (laws_szBoolSS_a5) N a0 left1 i5
def laws_szBoolSS (N : Nat) (a_0 : (List (List Bool))) (left_1 : Int) : Option (Int × Unit) := laws_szBoolSS_s (laws_szBoolSS_F5 N) a_0 left_1
def S_laws_szBoolSS : Sig := { a := (.pair (.sl (.sl .bool)) (.pair I .unit)), md := [0, 0], mf := [], m := .unit, r := I, rf := .i, f := fun x => laws_szBoolSS big x.1 x.2.1 }
def A_laws_szBoolSS : Cfg := mkCfg tab [(50, S_laws_szBoolS)] [(10, [.as (.sl (.sl .bool)) .i, .as I .i, .drop, .drop, .drop, .as I .i]), (21, [.drop, .as I .i])]
def laws_szBoolSS_R5 (cd : Code) (N n : Nat) (K : Ex → St → Option (Int × Unit)) (a0 : (List (List Bool))) (left1 : Int) (i5 : Int) : Option (Int × Unit) := iter ((A_laws_szBoolSS).shape 10) (run (A_laws_szBoolSS) N cd) n ([.val (.sl (.sl .bool)) .i a0, .val I .i left1, .u, .u, .u, .val I .i i5] ++ List.replicate 21 .u) K
theorem laws_szBoolSS_step5 (N : Nat) (m : Nat) (kX : St → Option (Int × Unit)) (kO : Nat → St → Option (Int × Unit)) (a0 : (List (List Bool))) (left1 : Int) (i5 : Int) : laws_szBoolSS_R5 (codeAt Try.f23 [1, 1, 1, 0, 1, 0, 0]) N (m + 1) (exK (finish (A_laws_szBoolSS) S_laws_szBoolSS Try.f23.results.toList) 0 ((A_laws_szBoolSS).shape 21) kX kO) a0 left1 i5 = laws_szBoolSS_b5 (laws_szBoolSS_R5 (codeAt Try.f23 [1, 1, 1, 0, 1, 0, 0]) N m (exK (finish (A_laws_szBoolSS) S_laws_szBoolSS Try.f23.results.toList) 0 ((A_laws_szBoolSS).shape 21) kX kO)) (fun (left1 : Int) => kX ([.u, .val I .i left1] ++ List.replicate 25 .u)) a0 left1 i5 := by kernel_rfl
theorem laws_szBoolSS_iter5 (N : Nat) (kX : St → Option (Int × Unit)) (kO : Nat → St → Option (Int × Unit)) : ∀ (n : Nat) (a0 : (List (List Bool))) (left1 : Int) (i5 : Int), laws_szBoolSS_R5 (codeAt Try.f23 [1, 1, 1, 0, 1, 0, 0]) N n (exK (finish (A_laws_szBoolSS) S_laws_szBoolSS Try.f23.results.toList) 0 ((A_laws_szBoolSS).shape 21) kX kO) a0 left1 i5 = laws_szBoolSS_l5 N (fun (left1 : Int) => kX ([.u, .val I .i left1] ++ List.replicate 25 .u)) n a0 left1 i5
  | 0, _, _, _ => rfl
  | m + 1, a0, left1, i5 => by
    have hrec : laws_szBoolSS_R5 (codeAt Try.f23 [1, 1, 1, 0, 1, 0, 0]) N m (exK (finish (A_laws_szBoolSS) S_laws_szBoolSS Try.f23.results.toList) 0 ((A_laws_szBoolSS).shape 21) kX kO) = (laws_szBoolSS_l5 N (fun (left1 : Int) => kX ([.u, .val I .i left1] ++ List.replicate 25 .u)) m) := (funext fun a0 => (funext fun left1 => (funext fun i5 => laws_szBoolSS_iter5 N kX kO m a0 left1 i5)))
    refine (laws_szBoolSS_step5 N m kX kO a0 left1 i5).trans ?_
    rw [hrec]
    rfl
theorem laws_szBoolSS_after5 (N : Nat) (left1 : Int) : (fun st' => run (A_laws_szBoolSS) N (codeAt Try.f23 [1, 1, 1, 1]) st' (finish (A_laws_szBoolSS) S_laws_szBoolSS Try.f23.results.toList)) ([.u, .val I .i left1] ++ List.replicate 25 .u) = laws_szBoolSS_a5 left1 := by kernel_rfl
theorem laws_szBoolSS_in5 (N : Nat) (a0 : (List (List Bool))) (left1 : Int) (i5 : Int) : laws_szBoolSS_R5 (codeAt Try.f23 [1, 1, 1, 0, 1, 0, 0]) N N (blockK 0 (seqK ((A_laws_szBoolSS).shape 21) (run (A_laws_szBoolSS) N (codeAt Try.f23 [1, 1, 1, 1])) (finish (A_laws_szBoolSS) S_laws_szBoolSS Try.f23.results.toList))) a0 left1 i5 = laws_szBoolSS_F5 N a0 left1 i5 :=
  have h : (fun (left1 : Int) => (fun st' => run (A_laws_szBoolSS) N (codeAt Try.f23 [1, 1, 1, 1]) st' (finish (A_laws_szBoolSS) S_laws_szBoolSS Try.f23.results.toList)) ([.u, .val I .i left1] ++ List.replicate 25 .u)) = (laws_szBoolSS_a5) := (funext fun left1 => laws_szBoolSS_after5 N left1)
  have e : laws_szBoolSS_R5 (codeAt Try.f23 [1, 1, 1, 0, 1, 0, 0]) N N (blockK 0 (seqK ((A_laws_szBoolSS).shape 21) (run (A_laws_szBoolSS) N (codeAt Try.f23 [1, 1, 1, 1])) (finish (A_laws_szBoolSS) S_laws_szBoolSS Try.f23.results.toList))) a0 left1 i5 = laws_szBoolSS_R5 (codeAt Try.f23 [1, 1, 1, 0, 1, 0, 0]) N N (exK (finish (A_laws_szBoolSS) S_laws_szBoolSS Try.f23.results.toList) 0 ((A_laws_szBoolSS).shape 21) (fun st' => run (A_laws_szBoolSS) N (codeAt Try.f23 [1, 1, 1, 1]) st' (finish (A_laws_szBoolSS) S_laws_szBoolSS Try.f23.results.toList)) (fun j st => (blockK 0 (seqK ((A_laws_szBoolSS).shape 21) (run (A_laws_szBoolSS) N (codeAt Try.f23 [1, 1, 1, 1])) (finish (A_laws_szBoolSS) S_laws_szBoolSS Try.f23.results.toList))) (.exit j) st)) a0 left1 i5 := iter_ex (fun st => by kernel_rfl) (fun st => by kernel_rfl)
  (e.trans (laws_szBoolSS_iter5 N (fun st' => run (A_laws_szBoolSS) N (codeAt Try.f23 [1, 1, 1, 1]) st' (finish (A_laws_szBoolSS) S_laws_szBoolSS Try.f23.results.toList)) (fun j st => (blockK 0 (seqK ((A_laws_szBoolSS).shape 21) (run (A_laws_szBoolSS) N (codeAt Try.f23 [1, 1, 1, 1])) (finish (A_laws_szBoolSS) S_laws_szBoolSS Try.f23.results.toList))) (.exit j) st) N a0 left1 i5)).trans (congrArg (fun k => laws_szBoolSS_l5 N k N a0 left1 i5) h)
theorem run0_laws_szBoolSS (N : Nat) (x : (S_laws_szBoolSS).a.den) : runF (A_laws_szBoolSS) N Try.f23 S_laws_szBoolSS x = (laws_szBoolSS_s (laws_szBoolSS_R5 (codeAt Try.f23 [1, 1, 1, 0, 1, 0, 0]) N N (blockK 0 (seqK ((A_laws_szBoolSS).shape 21) (run (A_laws_szBoolSS) N (codeAt Try.f23 [1, 1, 1, 1])) (finish (A_laws_szBoolSS) S_laws_szBoolSS Try.f23.results.toList)))) x.1 x.2.1) := by kernel_rfl
theorem run_laws_szBoolSS (N : Nat) (x : (S_laws_szBoolSS).a.den) : runF (A_laws_szBoolSS) N Try.f23 S_laws_szBoolSS x = laws_szBoolSS N x.1 x.2.1 := by
  refine (run0_laws_szBoolSS N x).trans ?_
  rw [(funext fun a0 => (funext fun left1 => (funext fun i5 => laws_szBoolSS_in5 N a0 left1 i5)))]
  rfl
theorem fn_laws_szBoolSS : FnOk Try.prog 23 := ⟨_, Try.func23, by kernel_rfl, by kernel_rfl⟩
theorem good_laws_szBoolSS : Gx.Good Try.prog 23 S_laws_szBoolSS := good_of_run Try.func23 (of_decide_eq_true (by kernel_rfl)) fun x r h => ⟨A_laws_szBoolSS, big, mkCfg_ok tabOk, mkCfg_sigs (show SigsOk Try.prog [(50, S_laws_szBoolS)] from ⟨⟨fn_laws_szBoolS, good_laws_szBoolS⟩, trivial⟩), (run_laws_szBoolSS big x).trans h⟩

/-! laws_toBoolS -/
def laws_toBoolS_b3 (rec : (List Bool) → (List Bool) → Int → Option ((List Bool) × Unit)) (k : (List Bool) → Option ((List Bool) × Unit)) (a0 : (List Bool)) (out3 : (List Bool)) (i4 : Int) : Option ((List Bool) × Unit) :=
  cond (decide (i4 < (a0.length : Int)))
  ((atI a0 i4).bind fun xq3 =>
  (atI out3 i4).bind fun _ =>
  (out3[i4.toNat]?).bind fun xq4 =>
  rec a0 (out3.set i4.toNat xq3) (IntKind.i64.wrap (i4 + (1 : Int))))
  (k out3)
def laws_toBoolS_a3 (out3 : (List Bool)) : Option ((List Bool) × Unit) :=
  some (out3, (()))
def laws_toBoolS_s (L3 : (List Bool) → (List Bool) → Int → Option ((List Bool) × Unit)) (a_0 : (List Bool)) : Option ((List Bool) × Unit) :=
  (mkI false (a_0.length : Int)).bind fun xq1 => (mkI false (a_0.length : Int)).bind fun xq2 => cond (decide ((a_0.length : Int) ≤ (a_0.length : Int)))
  (L3 a_0 xq2 (0 : Int))
  none
def laws_toBoolS_l3 (N : Nat) (k : (List Bool) → Option ((List Bool) × Unit)) : Nat → (List Bool) → (List Bool) → Int → Option ((List Bool) × Unit)
  | 0, _, _, _ => none
  | m + 1, a0, out3, i4 => laws_toBoolS_b3 (laws_toBoolS_l3 N k m) k a0 out3 i4
def laws_toBoolS_F3 (N : Nat) (a0 : (List Bool)) (out3 : (List Bool)) (i4 : Int) : Option ((List Bool) × Unit) := laws_toBoolS_l3 N (laws_toBoolS_a3) N a0 out3 i4
def laws_toBoolS (N : Nat) (a_0 : (List Bool)) : Option ((List Bool) × Unit) := laws_toBoolS_s (laws_toBoolS_F3 N) a_0
def S_laws_toBoolS : Sig := { a := (.pair (.sl .bool) .unit), md := [0], mf := [], m := .unit, r := (.sl .bool), rf := (.o .i), f := fun x => laws_toBoolS big x.1 }
def A_laws_toBoolS : Cfg := mkCfg tab [] [(6, [.as (.sl .bool) .i, .drop, .drop, .as (.sl .bool) (.o .i), .as I .i]), (13, [.drop, .drop, .drop, .as (.sl .bool) (.o .i)])]
def laws_toBoolS_R3 (cd : Code) (N n : Nat) (K : Ex → St → Option ((List Bool) × Unit)) (a0 : (List Bool)) (out3 : (List Bool)) (i4 : Int) : Option ((List Bool) × Unit) := iter ((A_laws_toBoolS).shape 6) (run (A_laws_toBoolS) N cd) n ([.val (.sl .bool) .i a0, .u, .u, .val (.sl .bool) (.o .i) out3, .val I .i i4] ++ List.replicate 17 .u) K
theorem laws_toBoolS_step3 (N : Nat) (m : Nat) (kX : St → Option ((List Bool) × Unit)) (kO : Nat → St → Option ((List Bool) × Unit)) (a0 : (List Bool)) (out3 : (List Bool)) (i4 : Int) : laws_toBoolS_R3 (codeAt Try.f52 [1, 1, 0, 1, 0, 0]) N (m + 1) (exK (finish (A_laws_toBoolS) S_laws_toBoolS Try.f52.results.toList) 0 ((A_laws_toBoolS).shape 13) kX kO) a0 out3 i4 = laws_toBoolS_b3 (laws_toBoolS_R3 (codeAt Try.f52 [1, 1, 0, 1, 0, 0]) N m (exK (finish (A_laws_toBoolS) S_laws_toBoolS Try.f52.results.toList) 0 ((A_laws_toBoolS).shape 13) kX kO)) (fun (out3 : (List Bool)) => kX ([.u, .u, .u, .val (.sl .bool) (.o .i) out3] ++ List.replicate 18 .u)) a0 out3 i4 := by kernel_rfl
theorem laws_toBoolS_iter3 (N : Nat) (kX : St → Option ((List Bool) × Unit)) (kO : Nat → St → Option ((List Bool) × Unit)) : ∀ (n : Nat) (a0 : (List Bool)) (out3 : (List Bool)) (i4 : Int), laws_toBoolS_R3 (codeAt Try.f52 [1, 1, 0, 1, 0, 0]) N n (exK (finish (A_laws_toBoolS) S_laws_toBoolS Try.f52.results.toList) 0 ((A_laws_toBoolS).shape 13) kX kO) a0 out3 i4 = laws_toBoolS_l3 N (fun (out3 : (List Bool)) => kX ([.u, .u, .u, .val (.sl .bool) (.o .i) out3] ++ List.replicate 18 .u)) n a0 out3 i4
  | 0, _, _, _ => rfl
  | m + 1, a0, out3, i4 => by
    have hrec : laws_toBoolS_R3 (codeAt Try.f52 [1, 1, 0, 1, 0, 0]) N m (exK (finish (A_laws_toBoolS) S_laws_toBoolS Try.f52.results.toList) 0 ((A_laws_toBoolS).shape 13) kX kO) = (laws_toBoolS_l3 N (fun (out3 : (List Bool)) => kX ([.u, .u, .u, .val (.sl .bool) (.o .i) out3] ++ List.replicate 18 .u)) m) := (funext fun a0 => (funext fun out3 => (funext fun i4 => laws_toBoolS_iter3 N kX kO m a0 out3 i4)))
    refine (laws_toBoolS_step3 N m kX kO a0 out3 i4).trans ?_
    rw [hrec]
    rfl
theorem laws_toBoolS_after3 (N : Nat) (out3 : (List Bool)) : (fun st' => run (A_laws_toBoolS) N (codeAt Try.f52 [1, 1, 1]) st' (finish (A_laws_toBoolS) S_laws_toBoolS Try.f52.results.toList)) ([.u, .u, .u, .val (.sl .bool) (.o .i) out3] ++ List.replicate 18 .u) = laws_toBoolS_a3 out3 := by kernel_rfl
theorem laws_toBoolS_in3 (N : Nat) (a0 : (List Bool)) (out3 : (List Bool)) (i4 : Int) : laws_toBoolS_R3 (codeAt Try.f52 [1, 1, 0, 1, 0, 0]) N N (blockK 0 (seqK ((A_laws_toBoolS).shape 13) (run (A_laws_toBoolS) N (codeAt Try.f52 [1, 1, 1])) (finish (A_laws_toBoolS) S_laws_toBoolS Try.f52.results.toList))) a0 out3 i4 = laws_toBoolS_F3 N a0 out3 i4 :=
  have h : (fun (out3 : (List Bool)) => (fun st' => run (A_laws_toBoolS) N (codeAt Try.f52 [1, 1, 1]) st' (finish (A_laws_toBoolS) S_laws_toBoolS Try.f52.results.toList)) ([.u, .u, .u, .val (.sl .bool) (.o .i) out3] ++ List.replicate 18 .u)) = (laws_toBoolS_a3) := (funext fun out3 => laws_toBoolS_after3 N out3)
  have e : laws_toBoolS_R3 (codeAt Try.f52 [1, 1, 0, 1, 0, 0]) N N (blockK 0 (seqK ((A_laws_toBoolS).shape 13) (run (A_laws_toBoolS) N (codeAt Try.f52 [1, 1, 1])) (finish (A_laws_toBoolS) S_laws_toBoolS Try.f52.results.toList))) a0 out3 i4 = laws_toBoolS_R3 (codeAt Try.f52 [1, 1, 0, 1, 0, 0]) N N (exK (finish (A_laws_toBoolS) S_laws_toBoolS Try.f52.results.toList) 0 ((A_laws_toBoolS).shape 13) (fun st' => run (A_laws_toBoolS) N (codeAt Try.f52 [1, 1, 1]) st' (finish (A_laws_toBoolS) S_laws_toBoolS Try.f52.results.toList)) (fun j st => (blockK 0 (seqK ((A_laws_toBoolS).shape 13) (run (A_laws_toBoolS) N (codeAt Try.f52 [1, 1, 1])) (finish (A_laws_toBoolS) S_laws_toBoolS Try.f52.results.toList))) (.exit j) st)) a0 out3 i4 := iter_ex (fun st => by kernel_rfl) (fun st => by kernel_rfl)
  (e.trans (laws_toBoolS_iter3 N (fun st' => run (A_laws_toBoolS) N (codeAt Try.f52 [1, 1, 1]) st' (finish (A_laws_toBoolS) S_laws_toBoolS Try.f52.results.toList)) (fun j st => (blockK 0 (seqK ((A_laws_toBoolS).shape 13) (run (A_laws_toBoolS) N (codeAt Try.f52 [1, 1, 1])) (finish (A_laws_toBoolS) S_laws_toBoolS Try.f52.results.toList))) (.exit j) st) N a0 out3 i4)).trans (congrArg (fun k => laws_toBoolS_l3 N k N a0 out3 i4) h)
theorem run0_laws_toBoolS (N : Nat) (x : (S_laws_toBoolS).a.den) : runF (A_laws_toBoolS) N Try.f52 S_laws_toBoolS x = (laws_toBoolS_s (laws_toBoolS_R3 (codeAt Try.f52 [1, 1, 0, 1, 0, 0]) N N (blockK 0 (seqK ((A_laws_toBoolS).shape 13) (run (A_laws_toBoolS) N (codeAt Try.f52 [1, 1, 1])) (finish (A_laws_toBoolS) S_laws_toBoolS Try.f52.results.toList)))) x.1) := by kernel_rfl
theorem run_laws_toBoolS (N : Nat) (x : (S_laws_toBoolS).a.den) : runF (A_laws_toBoolS) N Try.f52 S_laws_toBoolS x = laws_toBoolS N x.1 := by
  refine (run0_laws_toBoolS N x).trans ?_
  rw [(funext fun a0 => (funext fun out3 => (funext fun i4 => laws_toBoolS_in3 N a0 out3 i4)))]
  rfl
theorem fn_laws_toBoolS : FnOk Try.prog 52 := ⟨_, Try.func52, by kernel_rfl, by kernel_rfl⟩
theorem good_laws_toBoolS : Gx.Good Try.prog 52 S_laws_toBoolS := good_of_run Try.func52 (of_decide_eq_true (by kernel_rfl)) fun x r h => ⟨A_laws_toBoolS, big, mkCfg_ok tabOk, mkCfg_sigs (show SigsOk Try.prog [] from trivial), (run_laws_toBoolS big x).trans h⟩

/-! laws_toBoolSS -/
def laws_toBoolSS_b3 (rec : (List (List Bool)) → (List (List Bool)) → Int → Option ((List (List Bool)) × Unit)) (k : (List (List Bool)) → Option ((List (List Bool)) × Unit)) (a0 : (List (List Bool))) (out3 : (List (List Bool))) (i4 : Int) : Option ((List (List Bool)) × Unit) :=
  cond (decide (i4 < (a0.length : Int)))
  ((atI a0 i4).bind fun xq3 =>
  (laws_toBoolS big xq3).bind fun rq4 =>
  (atI out3 i4).bind fun _ =>
  (out3[i4.toNat]?).bind fun xq5 =>
  rec a0 (out3.set i4.toNat rq4.1) (IntKind.i64.wrap (i4 + (1 : Int))))
  (k out3)
def laws_toBoolSS_a3 (out3 : (List (List Bool))) : Option ((List (List Bool)) × Unit) :=
  some (out3, (()))
def laws_toBoolSS_s (L3 : (List (List Bool)) → (List (List Bool)) → Int → Option ((List (List Bool)) × Unit)) (a_0 : (List (List Bool))) : Option ((List (List Bool)) × Unit) :=
  (mkI ([] : (List Bool)) (a_0.length : Int)).bind fun xq1 => (mkI ([] : (List Bool)) (a_0.length : Int)).bind fun xq2 => cond (decide ((a_0.length : Int) ≤ (a_0.length : Int)))
  (L3 a_0 xq2 (0 : Int))
  none
def laws_toBoolSS_l3 (N : Nat) (k : (List (List Bool)) → Option ((List (List Bool)) × Unit)) : Nat → (List (List Bool)) → (List (List Bool)) → Int → Option ((List (List Bool)) × Unit)
  | 0, _, _, _ => none
  | m + 1, a0, out3, i4 => laws_toBoolSS_b3 (laws_toBoolSS_l3 N k m) k a0 out3 i4
def laws_toBoolSS_F3 (N : Nat) (a0 : (List (List Bool))) (out3 : (List (List Bool))) (i4 : Int) : Option ((List (List Bool)) × Unit) := laws_toBoolSS_l3 N (laws_toBoolSS_a3) N a0 out3 i4
def laws_toBoolSS (N : Nat) (a_0 : (List (List Bool))) : Option ((List (List Bool)) × Unit) := laws_toBoolSS_s (laws_toBoolSS_F3 N) a_0
def S_laws_toBoolSS : Sig := { a := (.pair (.sl (.sl .bool)) .unit), md := [0], mf := [], m := .unit, r := (.sl (.sl .bool)), rf := (.o (.o .i)), f := fun x => laws_toBoolSS big x.1 }
def A_laws_toBoolSS : Cfg := mkCfg tab [(52, S_laws_toBoolS)] [(6, [.as (.sl (.sl .bool)) .i, .drop, .drop, .as (.sl (.sl .bool)) (.o (.o .i)), .as I .i]), (13, [.drop, .drop, .drop, .as (.sl (.sl .bool)) (.o (.o .i))])]
def laws_toBoolSS_R3 (cd : Code) (N n : Nat) (K : Ex → St → Option ((List (List Bool)) × Unit)) (a0 : (List (List Bool))) (out3 : (List (List Bool))) (i4 : Int) : Option ((List (List Bool)) × Unit) := iter ((A_laws_toBoolSS).shape 6) (run (A_laws_toBoolSS) N cd) n ([.val (.sl (.sl .bool)) .i a0, .u, .u, .val (.sl (.sl .bool)) (.o (.o .i)) out3, .val I .i i4] ++ List.replicate 18 .u) K
theorem laws_toBoolSS_step3 (N : Nat) (m : Nat) (kX : St → Option ((List (List Bool)) × Unit)) (kO : Nat → St → Option ((List (List Bool)) × Unit)) (a0 : (List (List Bool))) (out3 : (List (List Bool))) (i4 : Int) : laws_toBoolSS_R3 (codeAt Try.f25 [1, 1, 0, 1, 0, 0]) N (m + 1) (exK (finish (A_laws_toBoolSS) S_laws_toBoolSS Try.f25.results.toList) 0 ((A_laws_toBoolSS).shape 13) kX kO) a0 out3 i4 = laws_toBoolSS_b3 (laws_toBoolSS_R3 (codeAt Try.f25 [1, 1, 0, 1, 0, 0]) N m (exK (finish (A_laws_toBoolSS) S_laws_toBoolSS Try.f25.results.toList) 0 ((A_laws_toBoolSS).shape 13) kX kO)) (fun (out3 : (List (List Bool))) => kX ([.u, .u, .u, .val (.sl (.sl .bool)) (.o (.o .i)) out3] ++ List.replicate 19 .u)) a0 out3 i4 := by kernel_rfl
theorem laws_toBoolSS_iter3 (N : Nat) (kX : St → Option ((List (List Bool)) × Unit)) (kO : Nat → St → Option ((List (List Bool)) × Unit)) : ∀ (n : Nat) (a0 : (List (List Bool))) (out3 : (List (List Bool))) (i4 : Int), laws_toBoolSS_R3 (codeAt Try.f25 [1, 1, 0, 1, 0, 0]) N n (exK (finish (A_laws_toBoolSS) S_laws_toBoolSS Try.f25.results.toList) 0 ((A_laws_toBoolSS).shape 13) kX kO) a0 out3 i4 = laws_toBoolSS_l3 N (fun (out3 : (List (List Bool))) => kX ([.u, .u, .u, .val (.sl (.sl .bool)) (.o (.o .i)) out3] ++ List.replicate 19 .u)) n a0 out3 i4
  | 0, _, _, _ => rfl
  | m + 1, a0, out3, i4 => by
    have hrec : laws_toBoolSS_R3 (codeAt Try.f25 [1, 1, 0, 1, 0, 0]) N m (exK (finish (A_laws_toBoolSS) S_laws_toBoolSS Try.f25.results.toList) 0 ((A_laws_toBoolSS).shape 13) kX kO) = (laws_toBoolSS_l3 N (fun (out3 : (List (List Bool))) => kX ([.u, .u, .u, .val (.sl (.sl .bool)) (.o (.o .i)) out3] ++ List.replicate 19 .u)) m) := (funext fun a0 => (funext fun out3 => (funext fun i4 => laws_toBoolSS_iter3 N kX kO m a0 out3 i4)))
    refine (laws_toBoolSS_step3 N m kX kO a0 out3 i4).trans ?_
    rw [hrec]
    rfl
theorem laws_toBoolSS_after3 (N : Nat) (out3 : (List (List Bool))) : (fun st' => run (A_laws_toBoolSS) N (codeAt Try.f25 [1, 1, 1]) st' (finish (A_laws_toBoolSS) S_laws_toBoolSS Try.f25.results.toList)) ([.u, .u, .u, .val (.sl (.sl .bool)) (.o (.o .i)) out3] ++ List.replicate 19 .u) = laws_toBoolSS_a3 out3 := by kernel_rfl
theorem laws_toBoolSS_in3 (N : Nat) (a0 : (List (List Bool))) (out3 : (List (List Bool))) (i4 : Int) : laws_toBoolSS_R3 (codeAt Try.f25 [1, 1, 0, 1, 0, 0]) N N (blockK 0 (seqK ((A_laws_toBoolSS).shape 13) (run (A_laws_toBoolSS) N (codeAt Try.f25 [1, 1, 1])) (finish (A_laws_toBoolSS) S_laws_toBoolSS Try.f25.results.toList))) a0 out3 i4 = laws_toBoolSS_F3 N a0 out3 i4 :=
  have h : (fun (out3 : (List (List Bool))) => (fun st' => run (A_laws_toBoolSS) N (codeAt Try.f25 [1, 1, 1]) st' (finish (A_laws_toBoolSS) S_laws_toBoolSS Try.f25.results.toList)) ([.u, .u, .u, .val (.sl (.sl .bool)) (.o (.o .i)) out3] ++ List.replicate 19 .u)) = (laws_toBoolSS_a3) := (funext fun out3 => laws_toBoolSS_after3 N out3)
  have e : laws_toBoolSS_R3 (codeAt Try.f25 [1, 1, 0, 1, 0, 0]) N N (blockK 0 (seqK ((A_laws_toBoolSS).shape 13) (run (A_laws_toBoolSS) N (codeAt Try.f25 [1, 1, 1])) (finish (A_laws_toBoolSS) S_laws_toBoolSS Try.f25.results.toList))) a0 out3 i4 = laws_toBoolSS_R3 (codeAt Try.f25 [1, 1, 0, 1, 0, 0]) N N (exK (finish (A_laws_toBoolSS) S_laws_toBoolSS Try.f25.results.toList) 0 ((A_laws_toBoolSS).shape 13) (fun st' => run (A_laws_toBoolSS) N (codeAt Try.f25 [1, 1, 1]) st' (finish (A_laws_toBoolSS) S_laws_toBoolSS Try.f25.results.toList)) (fun j st => (blockK 0 (seqK ((A_laws_toBoolSS).shape 13) (run (A_laws_toBoolSS) N (codeAt Try.f25 [1, 1, 1])) (finish (A_laws_toBoolSS) S_laws_toBoolSS Try.f25.results.toList))) (.exit j) st)) a0 out3 i4 := iter_ex (fun st => by kernel_rfl) (fun st => by kernel_rfl)
  (e.trans (laws_toBoolSS_iter3 N (fun st' => run (A_laws_toBoolSS) N (codeAt Try.f25 [1, 1, 1]) st' (finish (A_laws_toBoolSS) S_laws_toBoolSS Try.f25.results.toList)) (fun j st => (blockK 0 (seqK ((A_laws_toBoolSS).shape 13) (run (A_laws_toBoolSS) N (codeAt Try.f25 [1, 1, 1])) (finish (A_laws_toBoolSS) S_laws_toBoolSS Try.f25.results.toList))) (.exit j) st) N a0 out3 i4)).trans (congrArg (fun k => laws_toBoolSS_l3 N k N a0 out3 i4) h)
theorem run0_laws_toBoolSS (N : Nat) (x : (S_laws_toBoolSS).a.den) : runF (A_laws_toBoolSS) N Try.f25 S_laws_toBoolSS x = (laws_toBoolSS_s (laws_toBoolSS_R3 (codeAt Try.f25 [1, 1, 0, 1, 0, 0]) N N (blockK 0 (seqK ((A_laws_toBoolSS).shape 13) (run (A_laws_toBoolSS) N (codeAt Try.f25 [1, 1, 1])) (finish (A_laws_toBoolSS) S_laws_toBoolSS Try.f25.results.toList)))) x.1) := by kernel_rfl
theorem run_laws_toBoolSS (N : Nat) (x : (S_laws_toBoolSS).a.den) : runF (A_laws_toBoolSS) N Try.f25 S_laws_toBoolSS x = laws_toBoolSS N x.1 := by
  refine (run0_laws_toBoolSS N x).trans ?_
  rw [(funext fun a0 => (funext fun out3 => (funext fun i4 => laws_toBoolSS_in3 N a0 out3 i4)))]
  rfl
theorem fn_laws_toBoolSS : FnOk Try.prog 25 := ⟨_, Try.func25, by kernel_rfl, by kernel_rfl⟩
theorem good_laws_toBoolSS : Gx.Good Try.prog 25 S_laws_toBoolSS := good_of_run Try.func25 (of_decide_eq_true (by kernel_rfl)) fun x r h => ⟨A_laws_toBoolSS, big, mkCfg_ok tabOk, mkCfg_sigs (show SigsOk Try.prog [(52, S_laws_toBoolS)] from ⟨⟨fn_laws_toBoolS, good_laws_toBoolS⟩, trivial⟩), (run_laws_toBoolSS big x).trans h⟩

/-! spec_l30Context -/
def spec_l30Context_b4 (rec : (List (List Bool)) → Int → Option (Bool × Unit)) (k : Option (Bool × Unit)) (cells0 : (List (List Bool))) (i3 : Int) : Option (Bool × Unit) :=
  cond (decide (i3 < (cells0.length : Int)))
  ((atI cells0 i3).bind fun xq1 =>
  cond (decide ((6 : Int) < (xq1.length : Int)))
  (some (false, (())))
  ((atI cells0 i3).bind fun xq2 =>
  (atI cells0 (0 : Int)).bind fun xq3 =>
  cond (decide ((xq2.length : Int) ≠ (xq3.length : Int)))
  (some (false, (())))
  (rec cells0 (IntKind.i64.wrap (i3 + (1 : Int))))))
  (k)
def spec_l30Context_a4 : Option (Bool × Unit) :=
  some (true, (()))
def spec_l30Context_s (L4 : (List (List Bool)) → Int → Option (Bool × Unit)) (cells_0 : (List (List Bool))) : Option (Bool × Unit) :=
  cond (decide ((6 : Int) < (cells_0.length : Int)))
  (some (false, (())))
  (L4 cells_0 (0 : Int))
def spec_l30Context_l4 (N : Nat) (k : Option (Bool × Unit)) : Nat → (List (List Bool)) → Int → Option (Bool × Unit)
  | 0, _, _ => none
  | m + 1, cells0, i3 => spec_l30Context_b4 (spec_l30Context_l4 N k m) k cells0 i3
def spec_l30Context_F4 (N : Nat) (cells0 : (List (List Bool))) (i3 : Int) : Option (Bool × Unit) := spec_l30Context_l4 N (spec_l30Context_a4) N cells0 i3
def spec_l30Context (N : Nat) (cells_0 : (List (List Bool))) : Option (Bool × Unit) := spec_l30Context_s (spec_l30Context_F4 N) cells_0
def S_spec_l30Context : Sig := { a := (.pair (.sl (.sl .bool)) .unit), md := [0], mf := [], m := .unit, r := .bool, rf := .i, f := fun x => spec_l30Context big x.1 }
def A_spec_l30Context : Cfg := mkCfg tab [] [(8, [.as (.sl (.sl .bool)) .i, .drop, .drop, .as I .i]), (17, [])]
def spec_l30Context_R4 (cd : Code) (N n : Nat) (K : Ex → St → Option (Bool × Unit)) (cells0 : (List (List Bool))) (i3 : Int) : Option (Bool × Unit) := iter ((A_spec_l30Context).shape 8) (run (A_spec_l30Context) N cd) n ([.val (.sl (.sl .bool)) .i cells0, .u, .u, .val I .i i3] ++ List.replicate 27 .u) K
theorem spec_l30Context_step4 (N : Nat) (m : Nat) (kX : St → Option (Bool × Unit)) (kO : Nat → St → Option (Bool × Unit)) (cells0 : (List (List Bool))) (i3 : Int) : spec_l30Context_R4 (codeAt Try.f51 [1, 1, 0, 1, 0, 0]) N (m + 1) (exK (finish (A_spec_l30Context) S_spec_l30Context Try.f51.results.toList) 0 ((A_spec_l30Context).shape 17) kX kO) cells0 i3 = spec_l30Context_b4 (spec_l30Context_R4 (codeAt Try.f51 [1, 1, 0, 1, 0, 0]) N m (exK (finish (A_spec_l30Context) S_spec_l30Context Try.f51.results.toList) 0 ((A_spec_l30Context).shape 17) kX kO)) (kX ([] ++ List.replicate 31 .u)) cells0 i3 := by kernel_rfl
theorem spec_l30Context_iter4 (N : Nat) (kX : St → Option (Bool × Unit)) (kO : Nat → St → Option (Bool × Unit)) : ∀ (n : Nat) (cells0 : (List (List Bool))) (i3 : Int), spec_l30Context_R4 (codeAt Try.f51 [1, 1, 0, 1, 0, 0]) N n (exK (finish (A_spec_l30Context) S_spec_l30Context Try.f51.results.toList) 0 ((A_spec_l30Context).shape 17) kX kO) cells0 i3 = spec_l30Context_l4 N (kX ([] ++ List.replicate 31 .u)) n cells0 i3
  | 0, _, _ => rfl
  | m + 1, cells0, i3 => by
    have hrec : spec_l30Context_R4 (codeAt Try.f51 [1, 1, 0, 1, 0, 0]) N m (exK (finish (A_spec_l30Context) S_spec_l30Context Try.f51.results.toList) 0 ((A_spec_l30Context).shape 17) kX kO) = (spec_l30Context_l4 N (kX ([] ++ List.replicate 31 .u)) m) := (funext fun cells0 => (funext fun i3 => spec_l30Context_iter4 N kX kO m cells0 i3))
    refine (spec_l30Context_step4 N m kX kO cells0 i3).trans ?_
    rw [hrec]
    rfl
theorem spec_l30Context_after4 (N : Nat) : (fun st' => run (A_spec_l30Context) N (codeAt Try.f51 [1, 1, 1]) st' (finish (A_spec_l30Context) S_spec_l30Context Try.f51.results.toList)) ([] ++ List.replicate 31 .u) = spec_l30Context_a4 := by kernel_rfl
theorem spec_l30Context_in4 (N : Nat) (cells0 : (List (List Bool))) (i3 : Int) : spec_l30Context_R4 (codeAt Try.f51 [1, 1, 0, 1, 0, 0]) N N (blockK 0 (seqK ((A_spec_l30Context).shape 17) (run (A_spec_l30Context) N (codeAt Try.f51 [1, 1, 1])) (finish (A_spec_l30Context) S_spec_l30Context Try.f51.results.toList))) cells0 i3 = spec_l30Context_F4 N cells0 i3 :=
  have h : ((fun st' => run (A_spec_l30Context) N (codeAt Try.f51 [1, 1, 1]) st' (finish (A_spec_l30Context) S_spec_l30Context Try.f51.results.toList)) ([] ++ List.replicate 31 .u)) = (spec_l30Context_a4) := spec_l30Context_after4 N
  have e : spec_l30Context_R4 (codeAt Try.f51 [1, 1, 0, 1, 0, 0]) N N (blockK 0 (seqK ((A_spec_l30Context).shape 17) (run (A_spec_l30Context) N (codeAt Try.f51 [1, 1, 1])) (finish (A_spec_l30Context) S_spec_l30Context Try.f51.results.toList))) cells0 i3 = spec_l30Context_R4 (codeAt Try.f51 [1, 1, 0, 1, 0, 0]) N N (exK (finish (A_spec_l30Context) S_spec_l30Context Try.f51.results.toList) 0 ((A_spec_l30Context).shape 17) (fun st' => run (A_spec_l30Context) N (codeAt Try.f51 [1, 1, 1]) st' (finish (A_spec_l30Context) S_spec_l30Context Try.f51.results.toList)) (fun j st => (blockK 0 (seqK ((A_spec_l30Context).shape 17) (run (A_spec_l30Context) N (codeAt Try.f51 [1, 1, 1])) (finish (A_spec_l30Context) S_spec_l30Context Try.f51.results.toList))) (.exit j) st)) cells0 i3 := iter_ex (fun st => by kernel_rfl) (fun st => by kernel_rfl)
  (e.trans (spec_l30Context_iter4 N (fun st' => run (A_spec_l30Context) N (codeAt Try.f51 [1, 1, 1]) st' (finish (A_spec_l30Context) S_spec_l30Context Try.f51.results.toList)) (fun j st => (blockK 0 (seqK ((A_spec_l30Context).shape 17) (run (A_spec_l30Context) N (codeAt Try.f51 [1, 1, 1])) (finish (A_spec_l30Context) S_spec_l30Context Try.f51.results.toList))) (.exit j) st) N cells0 i3)).trans (congrArg (fun k => spec_l30Context_l4 N k N cells0 i3) h)
theorem run0_spec_l30Context (N : Nat) (x : (S_spec_l30Context).a.den) : runF (A_spec_l30Context) N Try.f51 S_spec_l30Context x = (spec_l30Context_s (spec_l30Context_R4 (codeAt Try.f51 [1, 1, 0, 1, 0, 0]) N N (blockK 0 (seqK ((A_spec_l30Context).shape 17) (run (A_spec_l30Context) N (codeAt Try.f51 [1, 1, 1])) (finish (A_spec_l30Context) S_spec_l30Context Try.f51.results.toList)))) x.1) := by kernel_rfl
theorem run_spec_l30Context (N : Nat) (x : (S_spec_l30Context).a.den) : runF (A_spec_l30Context) N Try.f51 S_spec_l30Context x = spec_l30Context N x.1 := by
  refine (run0_spec_l30Context N x).trans ?_
  rw [(funext fun cells0 => (funext fun i3 => spec_l30Context_in4 N cells0 i3))]
  rfl
theorem fn_spec_l30Context : FnOk Try.prog 51 := ⟨_, Try.func51, by kernel_rfl, by kernel_rfl⟩
theorem good_spec_l30Context : Gx.Good Try.prog 51 S_spec_l30Context := good_of_run Try.func51 (of_decide_eq_true (by kernel_rfl)) fun x r h => ⟨A_spec_l30Context, big, mkCfg_ok tabOk, mkCfg_sigs (show SigsOk Try.prog [] from trivial), (run_spec_l30Context big x).trans h⟩

/-! spec_IsContext -/
def spec_IsContext_s (cells_0 : (List (List Bool))) : Option (Bool × Unit) :=
  (spec_l30Context big cells_0).bind fun rq1 =>
  some (rq1.1, (()))
def spec_IsContext (cells_0 : (List (List Bool))) : Option (Bool × Unit) := spec_IsContext_s cells_0
def S_spec_IsContext : Sig := { a := (.pair (.sl (.sl .bool)) .unit), md := [0], mf := [], m := .unit, r := .bool, rf := .i, f := fun x => spec_IsContext x.1 }
def A_spec_IsContext : Cfg := mkCfg tab [(51, S_spec_l30Context)] []
theorem run_spec_IsContext (N : Nat) (x : (S_spec_IsContext).a.den) : runF (A_spec_IsContext) N Try.f24 S_spec_IsContext x = spec_IsContext x.1 := by kernel_rfl
theorem fn_spec_IsContext : FnOk Try.prog 24 := ⟨_, Try.func24, by kernel_rfl, by kernel_rfl⟩
theorem good_spec_IsContext : Gx.Good Try.prog 24 S_spec_IsContext := good_of_run Try.func24 (of_decide_eq_true (by kernel_rfl)) fun x r h => ⟨A_spec_IsContext, big, mkCfg_ok tabOk, mkCfg_sigs (show SigsOk Try.prog [(51, S_spec_l30Context)] from ⟨⟨fn_spec_l30Context, good_spec_l30Context⟩, trivial⟩), (run_spec_IsContext big x).trans h⟩

/-! impl_columnsOf -/
def impl_columnsOf_s (cells_0 : (List (List Bool))) : Option (Int × Unit) :=
  cond (decide ((cells_0.length : Int) = (0 : Int)))
  (some ((0 : Int), (())))
  ((atI cells_0 (0 : Int)).bind fun xq1 =>
  some ((xq1.length : Int), (())))
def impl_columnsOf (cells_0 : (List (List Bool))) : Option (Int × Unit) := impl_columnsOf_s cells_0
def S_impl_columnsOf : Sig := { a := (.pair (.sl (.sl .bool)) .unit), md := [0], mf := [], m := .unit, r := I, rf := .i, f := fun x => impl_columnsOf x.1 }
def A_impl_columnsOf : Cfg := mkCfg tab [] []
theorem run_impl_columnsOf (N : Nat) (x : (S_impl_columnsOf).a.den) : runF (A_impl_columnsOf) N Try.f53 S_impl_columnsOf x = impl_columnsOf x.1 := by kernel_rfl
theorem fn_impl_columnsOf : FnOk Try.prog 53 := ⟨_, Try.func53, by kernel_rfl, by kernel_rfl⟩
theorem good_impl_columnsOf : Gx.Good Try.prog 53 S_impl_columnsOf := good_of_run Try.func53 (of_decide_eq_true (by kernel_rfl)) fun x r h => ⟨A_impl_columnsOf, big, mkCfg_ok tabOk, mkCfg_sigs (show SigsOk Try.prog [] from trivial), (run_impl_columnsOf big x).trans h⟩

/-! impl_IsContext -/
def impl_IsContext_b4 (rec : (List (List Bool)) → (List (List Bool)) → Int → Int → Option (Bool × Unit)) (k : Option (Bool × Unit)) (cells0 : (List (List Bool))) (t13 : (List (List Bool))) (t14 : Int) (t15 : Int) : Option (Bool × Unit) :=
  cond (decide (t15 < t14))
  ((atI t13 t15).bind fun xq2 =>
  (impl_columnsOf cells0).bind fun rq3 =>
  cond (decide ((xq2.length : Int) ≠ rq3.1))
  (some (false, (())))
  (rec cells0 t13 t14 (IntKind.i64.wrap (t15 + (1 : Int)))))
  (k)
def impl_IsContext_a4 : Option (Bool × Unit) :=
  some (true, (()))
def impl_IsContext_s (L4 : (List (List Bool)) → (List (List Bool)) → Int → Int → Option (Bool × Unit)) (cells_0 : (List (List Bool))) : Option (Bool × Unit) :=
  cond (decide ((6 : Int) < (cells_0.length : Int)))
  (some (false, (())))
  ((impl_columnsOf cells_0).bind fun rq1 =>
  cond (decide ((6 : Int) < rq1.1))
  (some (false, (())))
  (L4 cells_0 cells_0 (cells_0.length : Int) (0 : Int)))
def impl_IsContext_l4 (N : Nat) (k : Option (Bool × Unit)) : Nat → (List (List Bool)) → (List (List Bool)) → Int → Int → Option (Bool × Unit)
  | 0, _, _, _, _ => none
  | m + 1, cells0, t13, t14, t15 => impl_IsContext_b4 (impl_IsContext_l4 N k m) k cells0 t13 t14 t15
def impl_IsContext_F4 (N : Nat) (cells0 : (List (List Bool))) (t13 : (List (List Bool))) (t14 : Int) (t15 : Int) : Option (Bool × Unit) := impl_IsContext_l4 N (impl_IsContext_a4) N cells0 t13 t14 t15
def impl_IsContext (N : Nat) (cells_0 : (List (List Bool))) : Option (Bool × Unit) := impl_IsContext_s (impl_IsContext_F4 N) cells_0
def S_impl_IsContext : Sig := { a := (.pair (.sl (.sl .bool)) .unit), md := [0], mf := [], m := .unit, r := .bool, rf := .i, f := fun x => impl_IsContext big x.1 }
def A_impl_IsContext : Cfg := mkCfg tab [(53, S_impl_columnsOf)] [(8, [.as (.sl (.sl .bool)) .i, .drop, .drop, .drop, .drop, .drop, .drop, .drop, .drop, .drop, .drop, .drop, .drop, .as (.sl (.sl .bool)) .i, .as I .i, .as I .i]), (19, [])]
def impl_IsContext_R4 (cd : Code) (N n : Nat) (K : Ex → St → Option (Bool × Unit)) (cells0 : (List (List Bool))) (t13 : (List (List Bool))) (t14 : Int) (t15 : Int) : Option (Bool × Unit) := iter ((A_impl_IsContext).shape 8) (run (A_impl_IsContext) N cd) n ([.val (.sl (.sl .bool)) .i cells0, .u, .u, .u, .u, .u, .u, .u, .u, .u, .u, .u, .u, .val (.sl (.sl .bool)) .i t13, .val I .i t14, .val I .i t15] ++ List.replicate 9 .u) K
theorem impl_IsContext_step4 (N : Nat) (m : Nat) (kX : St → Option (Bool × Unit)) (kO : Nat → St → Option (Bool × Unit)) (cells0 : (List (List Bool))) (t13 : (List (List Bool))) (t14 : Int) (t15 : Int) : impl_IsContext_R4 (codeAt Try.f26 [1, 1, 0, 1, 0, 0]) N (m + 1) (exK (finish (A_impl_IsContext) S_impl_IsContext Try.f26.results.toList) 0 ((A_impl_IsContext).shape 19) kX kO) cells0 t13 t14 t15 = impl_IsContext_b4 (impl_IsContext_R4 (codeAt Try.f26 [1, 1, 0, 1, 0, 0]) N m (exK (finish (A_impl_IsContext) S_impl_IsContext Try.f26.results.toList) 0 ((A_impl_IsContext).shape 19) kX kO)) (kX ([] ++ List.replicate 25 .u)) cells0 t13 t14 t15 := by kernel_rfl
theorem impl_IsContext_iter4 (N : Nat) (kX : St → Option (Bool × Unit)) (kO : Nat → St → Option (Bool × Unit)) : ∀ (n : Nat) (cells0 : (List (List Bool))) (t13 : (List (List Bool))) (t14 : Int) (t15 : Int), impl_IsContext_R4 (codeAt Try.f26 [1, 1, 0, 1, 0, 0]) N n (exK (finish (A_impl_IsContext) S_impl_IsContext Try.f26.results.toList) 0 ((A_impl_IsContext).shape 19) kX kO) cells0 t13 t14 t15 = impl_IsContext_l4 N (kX ([] ++ List.replicate 25 .u)) n cells0 t13 t14 t15
  | 0, _, _, _, _ => rfl
  | m + 1, cells0, t13, t14, t15 => by
    have hrec : impl_IsContext_R4 (codeAt Try.f26 [1, 1, 0, 1, 0, 0]) N m (exK (finish (A_impl_IsContext) S_impl_IsContext Try.f26.results.toList) 0 ((A_impl_IsContext).shape 19) kX kO) = (impl_IsContext_l4 N (kX ([] ++ List.replicate 25 .u)) m) := (funext fun cells0 => (funext fun t13 => (funext fun t14 => (funext fun t15 => impl_IsContext_iter4 N kX kO m cells0 t13 t14 t15))))
    refine (impl_IsContext_step4 N m kX kO cells0 t13 t14 t15).trans ?_
    rw [hrec]
    rfl
theorem impl_IsContext_after4 (N : Nat) : (fun st' => run (A_impl_IsContext) N (codeAt Try.f26 [1, 1, 1]) st' (finish (A_impl_IsContext) S_impl_IsContext Try.f26.results.toList)) ([] ++ List.replicate 25 .u) = impl_IsContext_a4 := by kernel_rfl
theorem impl_IsContext_in4 (N : Nat) (cells0 : (List (List Bool))) (t13 : (List (List Bool))) (t14 : Int) (t15 : Int) : impl_IsContext_R4 (codeAt Try.f26 [1, 1, 0, 1, 0, 0]) N N (blockK 0 (seqK ((A_impl_IsContext).shape 19) (run (A_impl_IsContext) N (codeAt Try.f26 [1, 1, 1])) (finish (A_impl_IsContext) S_impl_IsContext Try.f26.results.toList))) cells0 t13 t14 t15 = impl_IsContext_F4 N cells0 t13 t14 t15 :=
  have h : ((fun st' => run (A_impl_IsContext) N (codeAt Try.f26 [1, 1, 1]) st' (finish (A_impl_IsContext) S_impl_IsContext Try.f26.results.toList)) ([] ++ List.replicate 25 .u)) = (impl_IsContext_a4) := impl_IsContext_after4 N
  have e : impl_IsContext_R4 (codeAt Try.f26 [1, 1, 0, 1, 0, 0]) N N (blockK 0 (seqK ((A_impl_IsContext).shape 19) (run (A_impl_IsContext) N (codeAt Try.f26 [1, 1, 1])) (finish (A_impl_IsContext) S_impl_IsContext Try.f26.results.toList))) cells0 t13 t14 t15 = impl_IsContext_R4 (codeAt Try.f26 [1, 1, 0, 1, 0, 0]) N N (exK (finish (A_impl_IsContext) S_impl_IsContext Try.f26.results.toList) 0 ((A_impl_IsContext).shape 19) (fun st' => run (A_impl_IsContext) N (codeAt Try.f26 [1, 1, 1]) st' (finish (A_impl_IsContext) S_impl_IsContext Try.f26.results.toList)) (fun j st => (blockK 0 (seqK ((A_impl_IsContext).shape 19) (run (A_impl_IsContext) N (codeAt Try.f26 [1, 1, 1])) (finish (A_impl_IsContext) S_impl_IsContext Try.f26.results.toList))) (.exit j) st)) cells0 t13 t14 t15 := iter_ex (fun st => by kernel_rfl) (fun st => by kernel_rfl)
  (e.trans (impl_IsContext_iter4 N (fun st' => run (A_impl_IsContext) N (codeAt Try.f26 [1, 1, 1]) st' (finish (A_impl_IsContext) S_impl_IsContext Try.f26.results.toList)) (fun j st => (blockK 0 (seqK ((A_impl_IsContext).shape 19) (run (A_impl_IsContext) N (codeAt Try.f26 [1, 1, 1])) (finish (A_impl_IsContext) S_impl_IsContext Try.f26.results.toList))) (.exit j) st) N cells0 t13 t14 t15)).trans (congrArg (fun k => impl_IsContext_l4 N k N cells0 t13 t14 t15) h)
theorem run0_impl_IsContext (N : Nat) (x : (S_impl_IsContext).a.den) : runF (A_impl_IsContext) N Try.f26 S_impl_IsContext x = (impl_IsContext_s (impl_IsContext_R4 (codeAt Try.f26 [1, 1, 0, 1, 0, 0]) N N (blockK 0 (seqK ((A_impl_IsContext).shape 19) (run (A_impl_IsContext) N (codeAt Try.f26 [1, 1, 1])) (finish (A_impl_IsContext) S_impl_IsContext Try.f26.results.toList)))) x.1) := by kernel_rfl
theorem run_impl_IsContext (N : Nat) (x : (S_impl_IsContext).a.den) : runF (A_impl_IsContext) N Try.f26 S_impl_IsContext x = impl_IsContext N x.1 := by
  refine (run0_impl_IsContext N x).trans ?_
  rw [(funext fun cells0 => (funext fun t13 => (funext fun t14 => (funext fun t15 => impl_IsContext_in4 N cells0 t13 t14 t15))))]
  rfl
theorem fn_impl_IsContext : FnOk Try.prog 26 := ⟨_, Try.func26, by kernel_rfl, by kernel_rfl⟩
theorem good_impl_IsContext : Gx.Good Try.prog 26 S_impl_IsContext := good_of_run Try.func26 (of_decide_eq_true (by kernel_rfl)) fun x r h => ⟨A_impl_IsContext, big, mkCfg_ok tabOk, mkCfg_sigs (show SigsOk Try.prog [(53, S_impl_columnsOf)] from ⟨⟨fn_impl_columnsOf, good_impl_columnsOf⟩, trivial⟩), (run_impl_IsContext big x).trans h⟩

/-! laws_eqBoolS -/
def laws_eqBoolS_b4 (rec : (List Bool) → (List Bool) → Int → Option (Bool × Unit)) (k : Option (Bool × Unit)) (a0 : (List Bool)) (b1 : (List Bool)) (i5 : Int) : Option (Bool × Unit) :=
  cond (decide (i5 < (a0.length : Int)))
  ((atI a0 i5).bind fun xq1 =>
  (atI b1 i5).bind fun xq2 =>
  cond (xq1 != xq2)
  (some (false, (())))
  (rec a0 b1 (IntKind.i64.wrap (i5 + (1 : Int)))))
  (k)
def laws_eqBoolS_a4 : Option (Bool × Unit) :=
  some (true, (()))
def laws_eqBoolS_s (L4 : (List Bool) → (List Bool) → Int → Option (Bool × Unit)) (a_0 : (List Bool)) (b_1 : (List Bool)) : Option (Bool × Unit) :=
  cond (decide ((a_0.length : Int) ≠ (b_1.length : Int)))
  (some (false, (())))
  (L4 a_0 b_1 (0 : Int))
def laws_eqBoolS_l4 (N : Nat) (k : Option (Bool × Unit)) : Nat → (List Bool) → (List Bool) → Int → Option (Bool × Unit)
  | 0, _, _, _ => none
  | m + 1, a0, b1, i5 => laws_eqBoolS_b4 (laws_eqBoolS_l4 N k m) k a0 b1 i5
def laws_eqBoolS_F4 (N : Nat) (a0 : (List Bool)) (b1 : (List Bool)) (i5 : Int) : Option (Bool × Unit) := laws_eqBoolS_l4 N (laws_eqBoolS_a4) N a0 b1 i5
def laws_eqBoolS (N : Nat) (a_0 : (List Bool)) (b_1 : (List Bool)) : Option (Bool × Unit) := laws_eqBoolS_s (laws_eqBoolS_F4 N) a_0 b_1
def S_laws_eqBoolS : Sig := { a := (.pair (.sl .bool) (.pair (.sl .bool) .unit)), md := [0, 0], mf := [], m := .unit, r := .bool, rf := .i, f := fun x => laws_eqBoolS big x.1 x.2.1 }
def A_laws_eqBoolS : Cfg := mkCfg tab [] [(8, [.as (.sl .bool) .i, .as (.sl .bool) .i, .drop, .drop, .drop, .as I .i]), (17, [])]
def laws_eqBoolS_R4 (cd : Code) (N n : Nat) (K : Ex → St → Option (Bool × Unit)) (a0 : (List Bool)) (b1 : (List Bool)) (i5 : Int) : Option (Bool × Unit) := iter ((A_laws_eqBoolS).shape 8) (run (A_laws_eqBoolS) N cd) n ([.val (.sl .bool) .i a0, .val (.sl .bool) .i b1, .u, .u, .u, .val I .i i5] ++ List.replicate 20 .u) K
theorem laws_eqBoolS_step4 (N : Nat) (m : Nat) (kX : St → Option (Bool × Unit)) (kO : Nat → St → Option (Bool × Unit)) (a0 : (List Bool)) (b1 : (List Bool)) (i5 : Int) : laws_eqBoolS_R4 (codeAt Try.f54 [1, 1, 0, 1, 0, 0]) N (m + 1) (exK (finish (A_laws_eqBoolS) S_laws_eqBoolS Try.f54.results.toList) 0 ((A_laws_eqBoolS).shape 17) kX kO) a0 b1 i5 = laws_eqBoolS_b4 (laws_eqBoolS_R4 (codeAt Try.f54 [1, 1, 0, 1, 0, 0]) N m (exK (finish (A_laws_eqBoolS) S_laws_eqBoolS Try.f54.results.toList) 0 ((A_laws_eqBoolS).shape 17) kX kO)) (kX ([] ++ List.replicate 26 .u)) a0 b1 i5 := by kernel_rfl
theorem laws_eqBoolS_iter4 (N : Nat) (kX : St → Option (Bool × Unit)) (kO : Nat → St → Option (Bool × Unit)) : ∀ (n : Nat) (a0 : (List Bool)) (b1 : (List Bool)) (i5 : Int), laws_eqBoolS_R4 (codeAt Try.f54 [1, 1, 0, 1, 0, 0]) N n (exK (finish (A_laws_eqBoolS) S_laws_eqBoolS Try.f54.results.toList) 0 ((A_laws_eqBoolS).shape 17) kX kO) a0 b1 i5 = laws_eqBoolS_l4 N (kX ([] ++ List.replicate 26 .u)) n a0 b1 i5
  | 0, _, _, _ => rfl
  | m + 1, a0, b1, i5 => by
    have hrec : laws_eqBoolS_R4 (codeAt Try.f54 [1, 1, 0, 1, 0, 0]) N m (exK (finish (A_laws_eqBoolS) S_laws_eqBoolS Try.f54.results.toList) 0 ((A_laws_eqBoolS).shape 17) kX kO) = (laws_eqBoolS_l4 N (kX ([] ++ List.replicate 26 .u)) m) := (funext fun a0 => (funext fun b1 => (funext fun i5 => laws_eqBoolS_iter4 N kX kO m a0 b1 i5)))
    refine (laws_eqBoolS_step4 N m kX kO a0 b1 i5).trans ?_
    rw [hrec]
    rfl
theorem laws_eqBoolS_after4 (N : Nat) : (fun st' => run (A_laws_eqBoolS) N (codeAt Try.f54 [1, 1, 1]) st' (finish (A_laws_eqBoolS) S_laws_eqBoolS Try.f54.results.toList)) ([] ++ List.replicate 26 .u) = laws_eqBoolS_a4 := by kernel_rfl
theorem laws_eqBoolS_in4 (N : Nat) (a0 : (List Bool)) (b1 : (List Bool)) (i5 : Int) : laws_eqBoolS_R4 (codeAt Try.f54 [1, 1, 0, 1, 0, 0]) N N (blockK 0 (seqK ((A_laws_eqBoolS).shape 17) (run (A_laws_eqBoolS) N (codeAt Try.f54 [1, 1, 1])) (finish (A_laws_eqBoolS) S_laws_eqBoolS Try.f54.results.toList))) a0 b1 i5 = laws_eqBoolS_F4 N a0 b1 i5 :=
  have h : ((fun st' => run (A_laws_eqBoolS) N (codeAt Try.f54 [1, 1, 1]) st' (finish (A_laws_eqBoolS) S_laws_eqBoolS Try.f54.results.toList)) ([] ++ List.replicate 26 .u)) = (laws_eqBoolS_a4) := laws_eqBoolS_after4 N
  have e : laws_eqBoolS_R4 (codeAt Try.f54 [1, 1, 0, 1, 0, 0]) N N (blockK 0 (seqK ((A_laws_eqBoolS).shape 17) (run (A_laws_eqBoolS) N (codeAt Try.f54 [1, 1, 1])) (finish (A_laws_eqBoolS) S_laws_eqBoolS Try.f54.results.toList))) a0 b1 i5 = laws_eqBoolS_R4 (codeAt Try.f54 [1, 1, 0, 1, 0, 0]) N N (exK (finish (A_laws_eqBoolS) S_laws_eqBoolS Try.f54.results.toList) 0 ((A_laws_eqBoolS).shape 17) (fun st' => run (A_laws_eqBoolS) N (codeAt Try.f54 [1, 1, 1]) st' (finish (A_laws_eqBoolS) S_laws_eqBoolS Try.f54.results.toList)) (fun j st => (blockK 0 (seqK ((A_laws_eqBoolS).shape 17) (run (A_laws_eqBoolS) N (codeAt Try.f54 [1, 1, 1])) (finish (A_laws_eqBoolS) S_laws_eqBoolS Try.f54.results.toList))) (.exit j) st)) a0 b1 i5 := iter_ex (fun st => by kernel_rfl) (fun st => by kernel_rfl)
  (e.trans (laws_eqBoolS_iter4 N (fun st' => run (A_laws_eqBoolS) N (codeAt Try.f54 [1, 1, 1]) st' (finish (A_laws_eqBoolS) S_laws_eqBoolS Try.f54.results.toList)) (fun j st => (blockK 0 (seqK ((A_laws_eqBoolS).shape 17) (run (A_laws_eqBoolS) N (codeAt Try.f54 [1, 1, 1])) (finish (A_laws_eqBoolS) S_laws_eqBoolS Try.f54.results.toList))) (.exit j) st) N a0 b1 i5)).trans (congrArg (fun k => laws_eqBoolS_l4 N k N a0 b1 i5) h)
theorem run0_laws_eqBoolS (N : Nat) (x : (S_laws_eqBoolS).a.den) : runF (A_laws_eqBoolS) N Try.f54 S_laws_eqBoolS x = (laws_eqBoolS_s (laws_eqBoolS_R4 (codeAt Try.f54 [1, 1, 0, 1, 0, 0]) N N (blockK 0 (seqK ((A_laws_eqBoolS).shape 17) (run (A_laws_eqBoolS) N (codeAt Try.f54 [1, 1, 1])) (finish (A_laws_eqBoolS) S_laws_eqBoolS Try.f54.results.toList)))) x.1 x.2.1) := by kernel_rfl
theorem run_laws_eqBoolS (N : Nat) (x : (S_laws_eqBoolS).a.den) : runF (A_laws_eqBoolS) N Try.f54 S_laws_eqBoolS x = laws_eqBoolS N x.1 x.2.1 := by
  refine (run0_laws_eqBoolS N x).trans ?_
  rw [(funext fun a0 => (funext fun b1 => (funext fun i5 => laws_eqBoolS_in4 N a0 b1 i5)))]
  rfl
theorem fn_laws_eqBoolS : FnOk Try.prog 54 := ⟨_, Try.func54, by kernel_rfl, by kernel_rfl⟩
theorem good_laws_eqBoolS : Gx.Good Try.prog 54 S_laws_eqBoolS := good_of_run Try.func54 (of_decide_eq_true (by kernel_rfl)) fun x r h => ⟨A_laws_eqBoolS, big, mkCfg_ok tabOk, mkCfg_sigs (show SigsOk Try.prog [] from trivial), (run_laws_eqBoolS big x).trans h⟩

/-! laws_eqBoolSS -/
def laws_eqBoolSS_b4 (rec : (List (List Bool)) → (List (List Bool)) → Int → Option (Bool × Unit)) (k : Option (Bool × Unit)) (a0 : (List (List Bool))) (b1 : (List (List Bool))) (i5 : Int) : Option (Bool × Unit) :=
  cond (decide (i5 < (a0.length : Int)))
  ((atI a0 i5).bind fun xq1 =>
  (atI b1 i5).bind fun xq2 =>
  (laws_eqBoolS big xq1 xq2).bind fun rq3 =>
  cond (!rq3.1)
  (some (false, (())))
  (rec a0 b1 (IntKind.i64.wrap (i5 + (1 : Int)))))
  (k)
def laws_eqBoolSS_a4 : Option (Bool × Unit) :=
  some (true, (()))
def laws_eqBoolSS_s (L4 : (List (List Bool)) → (List (List Bool)) → Int → Option (Bool × Unit)) (a_0 : (List (List Bool))) (b_1 : (List (List Bool))) : Option (Bool × Unit) :=
  cond (decide ((a_0.length : Int) ≠ (b_1.length : Int)))
  (some (false, (())))
  (L4 a_0 b_1 (0 : Int))
def laws_eqBoolSS_l4 (N : Nat) (k : Option (Bool × Unit)) : Nat → (List (List Bool)) → (List (List Bool)) → Int → Option (Bool × Unit)
  | 0, _, _, _ => none
  | m + 1, a0, b1, i5 => laws_eqBoolSS_b4 (laws_eqBoolSS_l4 N k m) k a0 b1 i5
def laws_eqBoolSS_F4 (N : Nat) (a0 : (List (List Bool))) (b1 : (List (List Bool))) (i5 : Int) : Option (Bool × Unit) := laws_eqBoolSS_l4 N (laws_eqBoolSS_a4) N a0 b1 i5
def laws_eqBoolSS (N : Nat) (a_0 : (List (List Bool))) (b_1 : (List (List Bool))) : Option (Bool × Unit) := laws_eqBoolSS_s (laws_eqBoolSS_F4 N) a_0 b_1
def S_laws_eqBoolSS : Sig := { a := (.pair (.sl (.sl .bool)) (.pair (.sl (.sl .bool)) .unit)), md := [0, 0], mf := [], m := .unit, r := .bool, rf := .i, f := fun x => laws_eqBoolSS big x.1 x.2.1 }
def A_laws_eqBoolSS : Cfg := mkCfg tab [(54, S_laws_eqBoolS)] [(8, [.as (.sl (.sl .bool)) .i, .as (.sl (.sl .bool)) .i, .drop, .drop, .drop, .as I .i]), (17, [])]
def laws_eqBoolSS_R4 (cd : Code) (N n : Nat) (K : Ex → St → Option (Bool × Unit)) (a0 : (List (List Bool))) (b1 : (List (List Bool))) (i5 : Int) : Option (Bool × Unit) := iter ((A_laws_eqBoolSS).shape 8) (run (A_laws_eqBoolSS) N cd) n ([.val (.sl (.sl .bool)) .i a0, .val (.sl (.sl .bool)) .i b1, .u, .u, .u, .val I .i i5] ++ List.replicate 21 .u) K
theorem laws_eqBoolSS_step4 (N : Nat) (m : Nat) (kX : St → Option (Bool × Unit)) (kO : Nat → St → Option (Bool × Unit)) (a0 : (List (List Bool))) (b1 : (List (List Bool))) (i5 : Int) : laws_eqBoolSS_R4 (codeAt Try.f27 [1, 1, 0, 1, 0, 0]) N (m + 1) (exK (finish (A_laws_eqBoolSS) S_laws_eqBoolSS Try.f27.results.toList) 0 ((A_laws_eqBoolSS).shape 17) kX kO) a0 b1 i5 = laws_eqBoolSS_b4 (laws_eqBoolSS_R4 (codeAt Try.f27 [1, 1, 0, 1, 0, 0]) N m (exK (finish (A_laws_eqBoolSS) S_laws_eqBoolSS Try.f27.results.toList) 0 ((A_laws_eqBoolSS).shape 17) kX kO)) (kX ([] ++ List.replicate 27 .u)) a0 b1 i5 := by kernel_rfl
theorem laws_eqBoolSS_iter4 (N : Nat) (kX : St → Option (Bool × Unit)) (kO : Nat → St → Option (Bool × Unit)) : ∀ (n : Nat) (a0 : (List (List Bool))) (b1 : (List (List Bool))) (i5 : Int), laws_eqBoolSS_R4 (codeAt Try.f27 [1, 1, 0, 1, 0, 0]) N n (exK (finish (A_laws_eqBoolSS) S_laws_eqBoolSS Try.f27.results.toList) 0 ((A_laws_eqBoolSS).shape 17) kX kO) a0 b1 i5 = laws_eqBoolSS_l4 N (kX ([] ++ List.replicate 27 .u)) n a0 b1 i5
  | 0, _, _, _ => rfl
  | m + 1, a0, b1, i5 => by
    have hrec : laws_eqBoolSS_R4 (codeAt Try.f27 [1, 1, 0, 1, 0, 0]) N m (exK (finish (A_laws_eqBoolSS) S_laws_eqBoolSS Try.f27.results.toList) 0 ((A_laws_eqBoolSS).shape 17) kX kO) = (laws_eqBoolSS_l4 N (kX ([] ++ List.replicate 27 .u)) m) := (funext fun a0 => (funext fun b1 => (funext fun i5 => laws_eqBoolSS_iter4 N kX kO m a0 b1 i5)))
    refine (laws_eqBoolSS_step4 N m kX kO a0 b1 i5).trans ?_
    rw [hrec]
    rfl
theorem laws_eqBoolSS_after4 (N : Nat) : (fun st' => run (A_laws_eqBoolSS) N (codeAt Try.f27 [1, 1, 1]) st' (finish (A_laws_eqBoolSS) S_laws_eqBoolSS Try.f27.results.toList)) ([] ++ List.replicate 27 .u) = laws_eqBoolSS_a4 := by kernel_rfl
theorem laws_eqBoolSS_in4 (N : Nat) (a0 : (List (List Bool))) (b1 : (List (List Bool))) (i5 : Int) : laws_eqBoolSS_R4 (codeAt Try.f27 [1, 1, 0, 1, 0, 0]) N N (blockK 0 (seqK ((A_laws_eqBoolSS).shape 17) (run (A_laws_eqBoolSS) N (codeAt Try.f27 [1, 1, 1])) (finish (A_laws_eqBoolSS) S_laws_eqBoolSS Try.f27.results.toList))) a0 b1 i5 = laws_eqBoolSS_F4 N a0 b1 i5 :=
  have h : ((fun st' => run (A_laws_eqBoolSS) N (codeAt Try.f27 [1, 1, 1]) st' (finish (A_laws_eqBoolSS) S_laws_eqBoolSS Try.f27.results.toList)) ([] ++ List.replicate 27 .u)) = (laws_eqBoolSS_a4) := laws_eqBoolSS_after4 N
  have e : laws_eqBoolSS_R4 (codeAt Try.f27 [1, 1, 0, 1, 0, 0]) N N (blockK 0 (seqK ((A_laws_eqBoolSS).shape 17) (run (A_laws_eqBoolSS) N (codeAt Try.f27 [1, 1, 1])) (finish (A_laws_eqBoolSS) S_laws_eqBoolSS Try.f27.results.toList))) a0 b1 i5 = laws_eqBoolSS_R4 (codeAt Try.f27 [1, 1, 0, 1, 0, 0]) N N (exK (finish (A_laws_eqBoolSS) S_laws_eqBoolSS Try.f27.results.toList) 0 ((A_laws_eqBoolSS).shape 17) (fun st' => run (A_laws_eqBoolSS) N (codeAt Try.f27 [1, 1, 1]) st' (finish (A_laws_eqBoolSS) S_laws_eqBoolSS Try.f27.results.toList)) (fun j st => (blockK 0 (seqK ((A_laws_eqBoolSS).shape 17) (run (A_laws_eqBoolSS) N (codeAt Try.f27 [1, 1, 1])) (finish (A_laws_eqBoolSS) S_laws_eqBoolSS Try.f27.results.toList))) (.exit j) st)) a0 b1 i5 := iter_ex (fun st => by kernel_rfl) (fun st => by kernel_rfl)
  (e.trans (laws_eqBoolSS_iter4 N (fun st' => run (A_laws_eqBoolSS) N (codeAt Try.f27 [1, 1, 1]) st' (finish (A_laws_eqBoolSS) S_laws_eqBoolSS Try.f27.results.toList)) (fun j st => (blockK 0 (seqK ((A_laws_eqBoolSS).shape 17) (run (A_laws_eqBoolSS) N (codeAt Try.f27 [1, 1, 1])) (finish (A_laws_eqBoolSS) S_laws_eqBoolSS Try.f27.results.toList))) (.exit j) st) N a0 b1 i5)).trans (congrArg (fun k => laws_eqBoolSS_l4 N k N a0 b1 i5) h)
theorem run0_laws_eqBoolSS (N : Nat) (x : (S_laws_eqBoolSS).a.den) : runF (A_laws_eqBoolSS) N Try.f27 S_laws_eqBoolSS x = (laws_eqBoolSS_s (laws_eqBoolSS_R4 (codeAt Try.f27 [1, 1, 0, 1, 0, 0]) N N (blockK 0 (seqK ((A_laws_eqBoolSS).shape 17) (run (A_laws_eqBoolSS) N (codeAt Try.f27 [1, 1, 1])) (finish (A_laws_eqBoolSS) S_laws_eqBoolSS Try.f27.results.toList)))) x.1 x.2.1) := by kernel_rfl
theorem run_laws_eqBoolSS (N : Nat) (x : (S_laws_eqBoolSS).a.den) : runF (A_laws_eqBoolSS) N Try.f27 S_laws_eqBoolSS x = laws_eqBoolSS N x.1 x.2.1 := by
  refine (run0_laws_eqBoolSS N x).trans ?_
  rw [(funext fun a0 => (funext fun b1 => (funext fun i5 => laws_eqBoolSS_in4 N a0 b1 i5)))]
  rfl
theorem fn_laws_eqBoolSS : FnOk Try.prog 27 := ⟨_, Try.func27, by kernel_rfl, by kernel_rfl⟩
theorem good_laws_eqBoolSS : Gx.Good Try.prog 27 S_laws_eqBoolSS := good_of_run Try.func27 (of_decide_eq_true (by kernel_rfl)) fun x r h => ⟨A_laws_eqBoolSS, big, mkCfg_ok tabOk, mkCfg_sigs (show SigsOk Try.prog [(54, S_laws_eqBoolS)] from ⟨⟨fn_laws_eqBoolS, good_laws_eqBoolS⟩, trivial⟩), (run_laws_eqBoolSS big x).trans h⟩

/-! laws_FnExactIsContext -/
def laws_FnExactIsContext_s (aCells_0 : (List (List Bool))) : Option (Bool × Unit) :=
  (laws_szBoolSS big aCells_0 (1048576 : Int)).bind fun rq1 =>
  cond (decide (rq1.1 < (0 : Int)))
  (some (true, (())))
  ((laws_toBoolSS big aCells_0).bind fun rq2 =>
  (spec_IsContext rq2.1).bind fun rq3 =>
  (laws_toBoolSS big aCells_0).bind fun rq4 =>
  (impl_IsContext big rq4.1).bind fun rq5 =>
  cond (rq5.1 != rq3.1)
  (some (false, (())))
  ((laws_toBoolSS big aCells_0).bind fun rq6 =>
  (laws_eqBoolSS big rq4.1 rq6.1).bind fun rq7 =>
  cond (!rq7.1)
  (some (false, (())))
  (some (true, (())))))
def laws_FnExactIsContext (aCells_0 : (List (List Bool))) : Option (Bool × Unit) := laws_FnExactIsContext_s aCells_0
def S_laws_FnExactIsContext : Sig := { a := (.pair (.sl (.sl .bool)) .unit), md := [0], mf := [], m := .unit, r := .bool, rf := .i, f := fun x => laws_FnExactIsContext x.1 }
def A_laws_FnExactIsContext : Cfg := mkCfg tab [(23, S_laws_szBoolSS), (25, S_laws_toBoolSS), (24, S_spec_IsContext), (26, S_impl_IsContext), (27, S_laws_eqBoolSS)] []
theorem run_laws_FnExactIsContext (N : Nat) (x : (S_laws_FnExactIsContext).a.den) : runF (A_laws_FnExactIsContext) N Try.f6 S_laws_FnExactIsContext x = laws_FnExactIsContext x.1 := by kernel_rfl
theorem fn_laws_FnExactIsContext : FnOk Try.prog 6 := ⟨_, Try.func6, by kernel_rfl, by kernel_rfl⟩
theorem good_laws_FnExactIsContext : Gx.Good Try.prog 6 S_laws_FnExactIsContext := good_of_run Try.func6 (of_decide_eq_true (by kernel_rfl)) fun x r h => ⟨A_laws_FnExactIsContext, big, mkCfg_ok tabOk, mkCfg_sigs (show SigsOk Try.prog [(23, S_laws_szBoolSS), (25, S_laws_toBoolSS), (24, S_spec_IsContext), (26, S_impl_IsContext), (27, S_laws_eqBoolSS)] from ⟨⟨fn_laws_szBoolSS, good_laws_szBoolSS⟩, ⟨fn_laws_toBoolSS, good_laws_toBoolSS⟩, ⟨fn_spec_IsContext, good_spec_IsContext⟩, ⟨fn_impl_IsContext, good_impl_IsContext⟩, ⟨fn_laws_eqBoolSS, good_laws_eqBoolSS⟩, trivial⟩), (run_laws_FnExactIsContext big x).trans h⟩

/-! spec_l28Two -/
def spec_l28Two_s (s_0 : (List Int)) (t_1 : (List Int)) : Option (Bool × Unit) :=
  (spec_l28Good s_0).bind fun rq1 =>
  cond rq1.1
  ((spec_l28Good t_1).bind fun rq2 =>
  some (rq2.1, (())))
  (some (false, (())))
def spec_l28Two (s_0 : (List Int)) (t_1 : (List Int)) : Option (Bool × Unit) := spec_l28Two_s s_0 t_1
def S_spec_l28Two : Sig := { a := (.pair (.sl I) (.pair (.sl I) .unit)), md := [0, 0], mf := [], m := .unit, r := .bool, rf := .i, f := fun x => spec_l28Two x.1 x.2.1 }
def A_spec_l28Two : Cfg := mkCfg tab [(48, S_spec_l28Good)] []
theorem run_spec_l28Two (N : Nat) (x : (S_spec_l28Two).a.den) : runF (A_spec_l28Two) N Try.f55 S_spec_l28Two x = spec_l28Two x.1 x.2.1 := by kernel_rfl
theorem fn_spec_l28Two : FnOk Try.prog 55 := ⟨_, Try.func55, by kernel_rfl, by kernel_rfl⟩
theorem good_spec_l28Two : Gx.Good Try.prog 55 S_spec_l28Two := good_of_run Try.func55 (of_decide_eq_true (by kernel_rfl)) fun x r h => ⟨A_spec_l28Two, big, mkCfg_ok tabOk, mkCfg_sigs (show SigsOk Try.prog [(48, S_spec_l28Good)] from ⟨⟨fn_spec_l28Good, good_spec_l28Good⟩, trivial⟩), (run_spec_l28Two big x).trans h⟩

/-! spec_l28Put -/
def spec_l28Put_s (sign_0 : Int) (s_1 : (List Int)) (t_2 : (List Int)) : Option ((List Int) × Unit) :=
  (appI [sign_0] s_1).bind fun xq1 =>
  (appI xq1 t_2).bind fun xq2 =>
  some (xq2, (()))
def spec_l28Put (sign_0 : Int) (s_1 : (List Int)) (t_2 : (List Int)) : Option ((List Int) × Unit) := spec_l28Put_s sign_0 s_1 t_2
def S_spec_l28Put : Sig := { a := (.pair I (.pair (.sl I) (.pair (.sl I) .unit))), md := [0, 0, 0], mf := [], m := .unit, r := (.sl I), rf := (.o .i), f := fun x => spec_l28Put x.1 x.2.1 x.2.2.1 }
def A_spec_l28Put : Cfg := mkCfg tab [] []
theorem run_spec_l28Put (N : Nat) (x : (S_spec_l28Put).a.den) : runF (A_spec_l28Put) N Try.f57 S_spec_l28Put x = spec_l28Put x.1 x.2.1 x.2.2.1 := by kernel_rfl
theorem fn_spec_l28Put : FnOk Try.prog 57 := ⟨_, Try.func57, by kernel_rfl, by kernel_rfl⟩
theorem good_spec_l28Put : Gx.Good Try.prog 57 S_spec_l28Put := good_of_run Try.func57 (of_decide_eq_true (by kernel_rfl)) fun x r h => ⟨A_spec_l28Put, big, mkCfg_ok tabOk, mkCfg_sigs (show SigsOk Try.prog [] from trivial), (run_spec_l28Put big x).trans h⟩

/-! spec_l28Give -/
def spec_l28Give_s (w_0 : (List Int)) : Option (((List Int) × (Bool × Unit)) × Unit) :=
  (spec_l28Good w_0).bind fun rq1 =>
  cond (!rq1.1)
  (some (([], false, ()), (())))
  (some ((w_0, true, ()), (())))
def spec_l28Give (w_0 : (List Int)) : Option (((List Int) × (Bool × Unit)) × Unit) := spec_l28Give_s w_0
def S_spec_l28Give : Sig := { a := (.pair (.sl I) .unit), md := [0], mf := [], m := .unit, r := (.tup (.pair (.sl I) (.pair .bool .unit))), rf := .i, f := fun x => spec_l28Give x.1 }
def A_spec_l28Give : Cfg := mkCfg tab [(48, S_spec_l28Good)] []
theorem run_spec_l28Give (N : Nat) (x : (S_spec_l28Give).a.den) : runF (A_spec_l28Give) N Try.f56 S_spec_l28Give x = spec_l28Give x.1 := by kernel_rfl
theorem fn_spec_l28Give : FnOk Try.prog 56 := ⟨_, Try.func56, by kernel_rfl, by kernel_rfl⟩
theorem good_spec_l28Give : Gx.Good Try.prog 56 S_spec_l28Give := good_of_run Try.func56 (of_decide_eq_true (by kernel_rfl)) fun x r h => ⟨A_spec_l28Give, big, mkCfg_ok tabOk, mkCfg_sigs (show SigsOk Try.prog [(48, S_spec_l28Good)] from ⟨⟨fn_spec_l28Good, good_spec_l28Good⟩, trivial⟩), (run_spec_l28Give big x).trans h⟩

/-! spec_JoinWords -/
def spec_JoinWords_s (s_0 : (List Int)) (t_1 : (List Int)) : Option (((List Int) × (Bool × Unit)) × Unit) :=
  (spec_l28Two s_0 t_1).bind fun rq1 =>
  cond (!rq1.1)
  (some (([], false, ()), (())))
  ((spec_l28Put (-2 : Int) s_0 t_1).bind fun rq2 =>
  (spec_l28Give rq2.1).bind fun rq3 =>
  some ((rq3.1.1, rq3.1.2.1, ()), (())))
def spec_JoinWords (s_0 : (List Int)) (t_1 : (List Int)) : Option (((List Int) × (Bool × Unit)) × Unit) := spec_JoinWords_s s_0 t_1
def S_spec_JoinWords : Sig := { a := (.pair (.sl I) (.pair (.sl I) .unit)), md := [0, 0], mf := [], m := .unit, r := (.tup (.pair (.sl I) (.pair .bool .unit))), rf := .i, f := fun x => spec_JoinWords x.1 x.2.1 }
def A_spec_JoinWords : Cfg := mkCfg tab [(55, S_spec_l28Two), (57, S_spec_l28Put), (56, S_spec_l28Give)] []
theorem run_spec_JoinWords (N : Nat) (x : (S_spec_JoinWords).a.den) : runF (A_spec_JoinWords) N Try.f28 S_spec_JoinWords x = spec_JoinWords x.1 x.2.1 := by kernel_rfl
theorem fn_spec_JoinWords : FnOk Try.prog 28 := ⟨_, Try.func28, by kernel_rfl, by kernel_rfl⟩
theorem good_spec_JoinWords : Gx.Good Try.prog 28 S_spec_JoinWords := good_of_run Try.func28 (of_decide_eq_true (by kernel_rfl)) fun x r h => ⟨A_spec_JoinWords, big, mkCfg_ok tabOk, mkCfg_sigs (show SigsOk Try.prog [(55, S_spec_l28Two), (57, S_spec_l28Put), (56, S_spec_l28Give)] from ⟨⟨fn_spec_l28Two, good_spec_l28Two⟩, ⟨fn_spec_l28Put, good_spec_l28Put⟩, ⟨fn_spec_l28Give, good_spec_l28Give⟩, trivial⟩), (run_spec_JoinWords big x).trans h⟩

/-! impl_areWords -/
def impl_areWords_s (s_0 : (List Int)) (t_1 : (List Int)) : Option (Bool × Unit) :=
  (impl_IsWord s_0).bind fun rq1 =>
  cond rq1.1
  ((impl_IsWord t_1).bind fun rq2 =>
  some (rq2.1, (())))
  (some (false, (())))
def impl_areWords (s_0 : (List Int)) (t_1 : (List Int)) : Option (Bool × Unit) := impl_areWords_s s_0 t_1
def S_impl_areWords : Sig := { a := (.pair (.sl I) (.pair (.sl I) .unit)), md := [0, 0], mf := [], m := .unit, r := .bool, rf := .i, f := fun x => impl_areWords x.1 x.2.1 }
def A_impl_areWords : Cfg := mkCfg tab [(19, S_impl_IsWord)] []
theorem run_impl_areWords (N : Nat) (x : (S_impl_areWords).a.den) : runF (A_impl_areWords) N Try.f61 S_impl_areWords x = impl_areWords x.1 x.2.1 := by kernel_rfl
theorem fn_impl_areWords : FnOk Try.prog 61 := ⟨_, Try.func61, by kernel_rfl, by kernel_rfl⟩
theorem good_impl_areWords : Gx.Good Try.prog 61 S_impl_areWords := good_of_run Try.func61 (of_decide_eq_true (by kernel_rfl)) fun x r h => ⟨A_impl_areWords, big, mkCfg_ok tabOk, mkCfg_sigs (show SigsOk Try.prog [(19, S_impl_IsWord)] from ⟨⟨fn_impl_IsWord, good_impl_IsWord⟩, trivial⟩), (run_impl_areWords big x).trans h⟩

/-! impl_combine -/
def impl_combine_s (sign_0 : Int) (s_1 : (List Int)) (t_2 : (List Int)) : Option ((List Int) × Unit) :=
  (appI [sign_0] s_1).bind fun xq1 =>
  (appI xq1 t_2).bind fun xq2 =>
  some (xq2, (()))
def impl_combine (sign_0 : Int) (s_1 : (List Int)) (t_2 : (List Int)) : Option ((List Int) × Unit) := impl_combine_s sign_0 s_1 t_2
def S_impl_combine : Sig := { a := (.pair I (.pair (.sl I) (.pair (.sl I) .unit))), md := [0, 0, 0], mf := [], m := .unit, r := (.sl I), rf := (.o .i), f := fun x => impl_combine x.1 x.2.1 x.2.2.1 }
def A_impl_combine : Cfg := mkCfg tab [] []
theorem run_impl_combine (N : Nat) (x : (S_impl_combine).a.den) : runF (A_impl_combine) N Try.f70 S_impl_combine x = impl_combine x.1 x.2.1 x.2.2.1 := by kernel_rfl
theorem fn_impl_combine : FnOk Try.prog 70 := ⟨_, Try.func70, by kernel_rfl, by kernel_rfl⟩
theorem good_impl_combine : Gx.Good Try.prog 70 S_impl_combine := good_of_run Try.func70 (of_decide_eq_true (by kernel_rfl)) fun x r h => ⟨A_impl_combine, big, mkCfg_ok tabOk, mkCfg_sigs (show SigsOk Try.prog [] from trivial), (run_impl_combine big x).trans h⟩

/-! impl_combined -/
def impl_combined_s (sign_0 : Int) (s_1 : (List Int)) (t_2 : (List Int)) : Option (((List Int) × (Bool × Unit)) × Unit) :=
  (impl_areWords s_1 t_2).bind fun rq1 =>
  cond (!rq1.1)
  (some (([], false, ()), (())))
  (cond (decide ((40 : Int) < (IntKind.i64.wrap ((IntKind.i64.wrap ((s_1.length : Int) + (t_2.length : Int))) + (1 : Int)))))
  (some (([], false, ()), (())))
  ((impl_combine sign_0 s_1 t_2).bind fun rq2 =>
  some ((rq2.1, true, ()), (()))))
def impl_combined (sign_0 : Int) (s_1 : (List Int)) (t_2 : (List Int)) : Option (((List Int) × (Bool × Unit)) × Unit) := impl_combined_s sign_0 s_1 t_2
def S_impl_combined : Sig := { a := (.pair I (.pair (.sl I) (.pair (.sl I) .unit))), md := [0, 0, 0], mf := [], m := .unit, r := (.tup (.pair (.sl I) (.pair .bool .unit))), rf := (.p (.o .i) .i), f := fun x => impl_combined x.1 x.2.1 x.2.2.1 }
def A_impl_combined : Cfg := mkCfg tab [(61, S_impl_areWords), (70, S_impl_combine)] []
theorem run_impl_combined (N : Nat) (x : (S_impl_combined).a.den) : runF (A_impl_combined) N Try.f58 S_impl_combined x = impl_combined x.1 x.2.1 x.2.2.1 := by kernel_rfl
theorem fn_impl_combined : FnOk Try.prog 58 := ⟨_, Try.func58, by kernel_rfl, by kernel_rfl⟩
theorem good_impl_combined : Gx.Good Try.prog 58 S_impl_combined := good_of_run Try.func58 (of_decide_eq_true (by kernel_rfl)) fun x r h => ⟨A_impl_combined, big, mkCfg_ok tabOk, mkCfg_sigs (show SigsOk Try.prog [(61, S_impl_areWords), (70, S_impl_combine)] from ⟨⟨fn_impl_areWords, good_impl_areWords⟩, ⟨fn_impl_combine, good_impl_combine⟩, trivial⟩), (run_impl_combined big x).trans h⟩

/-! impl_JoinWords -/
def impl_JoinWords_s (s_0 : (List Int)) (t_1 : (List Int)) : Option (((List Int) × (Bool × Unit)) × Unit) :=
  (impl_combined (-2 : Int) s_0 t_1).bind fun rq1 =>
  some ((rq1.1.1, (((), rq1.1.2).2).1, ()), (()))
def impl_JoinWords (s_0 : (List Int)) (t_1 : (List Int)) : Option (((List Int) × (Bool × Unit)) × Unit) := impl_JoinWords_s s_0 t_1
def S_impl_JoinWords : Sig := { a := (.pair (.sl I) (.pair (.sl I) .unit)), md := [0, 0], mf := [], m := .unit, r := (.tup (.pair (.sl I) (.pair .bool .unit))), rf := (.p (.o .i) .i), f := fun x => impl_JoinWords x.1 x.2.1 }
def A_impl_JoinWords : Cfg := mkCfg tab [(58, S_impl_combined)] []
theorem run_impl_JoinWords (N : Nat) (x : (S_impl_JoinWords).a.den) : runF (A_impl_JoinWords) N Try.f29 S_impl_JoinWords x = impl_JoinWords x.1 x.2.1 := by kernel_rfl
theorem fn_impl_JoinWords : FnOk Try.prog 29 := ⟨_, Try.func29, by kernel_rfl, by kernel_rfl⟩
theorem good_impl_JoinWords : Gx.Good Try.prog 29 S_impl_JoinWords := good_of_run Try.func29 (of_decide_eq_true (by kernel_rfl)) fun x r h => ⟨A_impl_JoinWords, big, mkCfg_ok tabOk, mkCfg_sigs (show SigsOk Try.prog [(58, S_impl_combined)] from ⟨⟨fn_impl_combined, good_impl_combined⟩, trivial⟩), (run_impl_JoinWords big x).trans h⟩

/-! laws_markIntS -/
def laws_markIntS_b2 (rec : (List Int) → Int → Int → Option (Int × ((List Int) × Unit))) (k : (List Int) → Int → Option (Int × ((List Int) × Unit))) (a0 : (List Int)) (k1 : Int) (i5 : Int) : Option (Int × ((List Int) × Unit)) :=
  cond (decide (i5 < (a0.length : Int)))
  ((atI a0 i5).bind fun _ =>
  (a0[i5.toNat]?).bind fun xq1 =>
  rec (a0.set i5.toNat k1) (IntKind.i64.wrap (k1 + (1 : Int))) (IntKind.i64.wrap (i5 + (1 : Int))))
  (k a0 k1)
def laws_markIntS_a2 (a0 : (List Int)) (k1 : Int) : Option (Int × ((List Int) × Unit)) :=
  some (k1, (a0, ()))
def laws_markIntS_s (L2 : (List Int) → Int → Int → Option (Int × ((List Int) × Unit))) (a_0 : (List Int)) (k_1 : Int) : Option (Int × ((List Int) × Unit)) :=
  L2 a_0 k_1 (0 : Int)
def laws_markIntS_l2 (N : Nat) (k : (List Int) → Int → Option (Int × ((List Int) × Unit))) : Nat → (List Int) → Int → Int → Option (Int × ((List Int) × Unit))
  | 0, _, _, _ => none
  | m + 1, a0, k1, i5 => laws_markIntS_b2 (laws_markIntS_l2 N k m) k a0 k1 i5
def laws_markIntS_F2 (N : Nat) (a0 : (List Int)) (k1 : Int) (i5 : Int) : Option (Int × ((List Int) × Unit)) := laws_markIntS_l2 N (laws_markIntS_a2) N a0 k1 i5
def laws_markIntS (N : Nat) (a_0 : (List Int)) (k_1 : Int) : Option (Int × ((List Int) × Unit)) := laws_markIntS_s (laws_markIntS_F2 N) a_0 k_1
def S_laws_markIntS : Sig := { a := (.pair (.sl I) (.pair I .unit)), md := [1, 0], mf := [(.o .i)], m := (.pair (.sl I) .unit), r := I, rf := .i, f := fun x => laws_markIntS big x.1 x.2.1 }
def A_laws_markIntS : Cfg := mkCfg tab [] [(4, [.as (.sl I) (.o .i), .as I .i, .drop, .drop, .drop, .as I .i]), (13, [.as (.sl I) (.o .i), .as I .i])]
def laws_markIntS_R2 (cd : Code) (N n : Nat) (K : Ex → St → Option (Int × ((List Int) × Unit))) (a0 : (List Int)) (k1 : Int) (i5 : Int) : Option (Int × ((List Int) × Unit)) := iter ((A_laws_markIntS).shape 4) (run (A_laws_markIntS) N cd) n ([.val (.sl I) (.o .i) a0, .val I .i k1, .u, .u, .u, .val I .i i5] ++ List.replicate 13 .u) K
theorem laws_markIntS_step2 (N : Nat) (m : Nat) (kX : St → Option (Int × ((List Int) × Unit))) (kO : Nat → St → Option (Int × ((List Int) × Unit))) (a0 : (List Int)) (k1 : Int) (i5 : Int) : laws_markIntS_R2 (codeAt Try.f30 [1, 0, 1, 0, 0]) N (m + 1) (exK (finish (A_laws_markIntS) S_laws_markIntS Try.f30.results.toList) 0 ((A_laws_markIntS).shape 13) kX kO) a0 k1 i5 = laws_markIntS_b2 (laws_markIntS_R2 (codeAt Try.f30 [1, 0, 1, 0, 0]) N m (exK (finish (A_laws_markIntS) S_laws_markIntS Try.f30.results.toList) 0 ((A_laws_markIntS).shape 13) kX kO)) (fun (a0 : (List Int)) (k1 : Int) => kX ([.val (.sl I) (.o .i) a0, .val I .i k1] ++ List.replicate 17 .u)) a0 k1 i5 := by kernel_rfl
theorem laws_markIntS_iter2 (N : Nat) (kX : St → Option (Int × ((List Int) × Unit))) (kO : Nat → St → Option (Int × ((List Int) × Unit))) : ∀ (n : Nat) (a0 : (List Int)) (k1 : Int) (i5 : Int), laws_markIntS_R2 (codeAt Try.f30 [1, 0, 1, 0, 0]) N n (exK (finish (A_laws_markIntS) S_laws_markIntS Try.f30.results.toList) 0 ((A_laws_markIntS).shape 13) kX kO) a0 k1 i5 = laws_markIntS_l2 N (fun (a0 : (List Int)) (k1 : Int) => kX ([.val (.sl I) (.o .i) a0, .val I .i k1] ++ List.replicate 17 .u)) n a0 k1 i5
  | 0, _, _, _ => rfl
  | m + 1, a0, k1, i5 => by
    have hrec : laws_markIntS_R2 (codeAt Try.f30 [1, 0, 1, 0, 0]) N m (exK (finish (A_laws_markIntS) S_laws_markIntS Try.f30.results.toList) 0 ((A_laws_markIntS).shape 13) kX kO) = (laws_markIntS_l2 N (fun (a0 : (List Int)) (k1 : Int) => kX ([.val (.sl I) (.o .i) a0, .val I .i k1] ++ List.replicate 17 .u)) m) := (funext fun a0 => (funext fun k1 => (funext fun i5 => laws_markIntS_iter2 N kX kO m a0 k1 i5)))
    refine (laws_markIntS_step2 N m kX kO a0 k1 i5).trans ?_
    rw [hrec]
    rfl
theorem laws_markIntS_after2 (N : Nat) (a0 : (List Int)) (k1 : Int) : (fun st' => run (A_laws_markIntS) N (codeAt Try.f30 [1, 1]) st' (finish (A_laws_markIntS) S_laws_markIntS Try.f30.results.toList)) ([.val (.sl I) (.o .i) a0, .val I .i k1] ++ List.replicate 17 .u) = laws_markIntS_a2 a0 k1 := by kernel_rfl
theorem laws_markIntS_in2 (N : Nat) (a0 : (List Int)) (k1 : Int) (i5 : Int) : laws_markIntS_R2 (codeAt Try.f30 [1, 0, 1, 0, 0]) N N (blockK 0 (seqK ((A_laws_markIntS).shape 13) (run (A_laws_markIntS) N (codeAt Try.f30 [1, 1])) (finish (A_laws_markIntS) S_laws_markIntS Try.f30.results.toList))) a0 k1 i5 = laws_markIntS_F2 N a0 k1 i5 :=
  have h : (fun (a0 : (List Int)) (k1 : Int) => (fun st' => run (A_laws_markIntS) N (codeAt Try.f30 [1, 1]) st' (finish (A_laws_markIntS) S_laws_markIntS Try.f30.results.toList)) ([.val (.sl I) (.o .i) a0, .val I .i k1] ++ List.replicate 17 .u)) = (laws_markIntS_a2) := (funext fun a0 => (funext fun k1 => laws_markIntS_after2 N a0 k1))
  have e : laws_markIntS_R2 (codeAt Try.f30 [1, 0, 1, 0, 0]) N N (blockK 0 (seqK ((A_laws_markIntS).shape 13) (run (A_laws_markIntS) N (codeAt Try.f30 [1, 1])) (finish (A_laws_markIntS) S_laws_markIntS Try.f30.results.toList))) a0 k1 i5 = laws_markIntS_R2 (codeAt Try.f30 [1, 0, 1, 0, 0]) N N (exK (finish (A_laws_markIntS) S_laws_markIntS Try.f30.results.toList) 0 ((A_laws_markIntS).shape 13) (fun st' => run (A_laws_markIntS) N (codeAt Try.f30 [1, 1]) st' (finish (A_laws_markIntS) S_laws_markIntS Try.f30.results.toList)) (fun j st => (blockK 0 (seqK ((A_laws_markIntS).shape 13) (run (A_laws_markIntS) N (codeAt Try.f30 [1, 1])) (finish (A_laws_markIntS) S_laws_markIntS Try.f30.results.toList))) (.exit j) st)) a0 k1 i5 := iter_ex (fun st => by kernel_rfl) (fun st => by kernel_rfl)
  (e.trans (laws_markIntS_iter2 N (fun st' => run (A_laws_markIntS) N (codeAt Try.f30 [1, 1]) st' (finish (A_laws_markIntS) S_laws_markIntS Try.f30.results.toList)) (fun j st => (blockK 0 (seqK ((A_laws_markIntS).shape 13) (run (A_laws_markIntS) N (codeAt Try.f30 [1, 1])) (finish (A_laws_markIntS) S_laws_markIntS Try.f30.results.toList))) (.exit j) st) N a0 k1 i5)).trans (congrArg (fun k => laws_markIntS_l2 N k N a0 k1 i5) h)
theorem run0_laws_markIntS (N : Nat) (x : (S_laws_markIntS).a.den) : runF (A_laws_markIntS) N Try.f30 S_laws_markIntS x = (laws_markIntS_s (laws_markIntS_R2 (codeAt Try.f30 [1, 0, 1, 0, 0]) N N (blockK 0 (seqK ((A_laws_markIntS).shape 13) (run (A_laws_markIntS) N (codeAt Try.f30 [1, 1])) (finish (A_laws_markIntS) S_laws_markIntS Try.f30.results.toList)))) x.1 x.2.1) := by kernel_rfl
theorem run_laws_markIntS (N : Nat) (x : (S_laws_markIntS).a.den) : runF (A_laws_markIntS) N Try.f30 S_laws_markIntS x = laws_markIntS N x.1 x.2.1 := by
  refine (run0_laws_markIntS N x).trans ?_
  rw [(funext fun a0 => (funext fun k1 => (funext fun i5 => laws_markIntS_in2 N a0 k1 i5)))]
  rfl
theorem fn_laws_markIntS : FnOk Try.prog 30 := ⟨_, Try.func30, by kernel_rfl, by kernel_rfl⟩
theorem good_laws_markIntS : Gx.Good Try.prog 30 S_laws_markIntS := good_of_run Try.func30 (of_decide_eq_true (by kernel_rfl)) fun x r h => ⟨A_laws_markIntS, big, mkCfg_ok tabOk, mkCfg_sigs (show SigsOk Try.prog [] from trivial), (run_laws_markIntS big x).trans h⟩

/-! laws_heldIntS -/
def laws_heldIntS_b2 (rec : (List Int) → Int → Int → Option (Int × Unit)) (k : Int → Option (Int × Unit)) (a0 : (List Int)) (k1 : Int) (i5 : Int) : Option (Int × Unit) :=
  cond (decide (i5 < (a0.length : Int)))
  ((atI a0 i5).bind fun xq1 =>
  cond (decide (xq1 ≠ k1))
  (some ((-1 : Int), (())))
  (rec a0 (IntKind.i64.wrap (k1 + (1 : Int))) (IntKind.i64.wrap (i5 + (1 : Int)))))
  (k k1)
def laws_heldIntS_a2 (k1 : Int) : Option (Int × Unit) :=
  some (k1, (()))
def laws_heldIntS_s (L2 : (List Int) → Int → Int → Option (Int × Unit)) (a_0 : (List Int)) (k_1 : Int) : Option (Int × Unit) :=
  L2 a_0 k_1 (0 : Int)
def laws_heldIntS_l2 (N : Nat) (k : Int → Option (Int × Unit)) : Nat → (List Int) → Int → Int → Option (Int × Unit)
  | 0, _, _, _ => none
  | m + 1, a0, k1, i5 => laws_heldIntS_b2 (laws_heldIntS_l2 N k m) k a0 k1 i5
def laws_heldIntS_F2 (N : Nat) (a0 : (List Int)) (k1 : Int) (i5 : Int) : Option (Int × Unit) := laws_heldIntS_l2 N (laws_heldIntS_a2) N a0 k1 i5
def laws_heldIntS (N : Nat) (a_0 : (List Int)) (k_1 : Int) : Option (Int × Unit) := laws_heldIntS_s (laws_heldIntS_F2 N) a_0 k_1
def S_laws_heldIntS : Sig := { a := (.pair (.sl I) (.pair I .unit)), md := [0, 0], mf := [], m := .unit, r := I, rf := .i, f := fun x => laws_heldIntS big x.1 x.2.1 }
def A_laws_heldIntS : Cfg := mkCfg tab [] [(4, [.as (.sl I) .i, .as I .i, .drop, .drop, .drop, .as I .i]), (15, [.drop, .as I .i])]
def laws_heldIntS_R2 (cd : Code) (N n : Nat) (K : Ex → St → Option (Int × Unit)) (a0 : (List Int)) (k1 : Int) (i5 : Int) : Option (Int × Unit) := iter ((A_laws_heldIntS).shape 4) (run (A_laws_heldIntS) N cd) n ([.val (.sl I) .i a0, .val I .i k1, .u, .u, .u, .val I .i i5] ++ List.replicate 15 .u) K
theorem laws_heldIntS_step2 (N : Nat) (m : Nat) (kX : St → Option (Int × Unit)) (kO : Nat → St → Option (Int × Unit)) (a0 : (List Int)) (k1 : Int) (i5 : Int) : laws_heldIntS_R2 (codeAt Try.f31 [1, 0, 1, 0, 0]) N (m + 1) (exK (finish (A_laws_heldIntS) S_laws_heldIntS Try.f31.results.toList) 0 ((A_laws_heldIntS).shape 15) kX kO) a0 k1 i5 = laws_heldIntS_b2 (laws_heldIntS_R2 (codeAt Try.f31 [1, 0, 1, 0, 0]) N m (exK (finish (A_laws_heldIntS) S_laws_heldIntS Try.f31.results.toList) 0 ((A_laws_heldIntS).shape 15) kX kO)) (fun (k1 : Int) => kX ([.u, .val I .i k1] ++ List.replicate 19 .u)) a0 k1 i5 := by kernel_rfl
theorem laws_heldIntS_iter2 (N : Nat) (kX : St → Option (Int × Unit)) (kO : Nat → St → Option (Int × Unit)) : ∀ (n : Nat) (a0 : (List Int)) (k1 : Int) (i5 : Int), laws_heldIntS_R2 (codeAt Try.f31 [1, 0, 1, 0, 0]) N n (exK (finish (A_laws_heldIntS) S_laws_heldIntS Try.f31.results.toList) 0 ((A_laws_heldIntS).shape 15) kX kO) a0 k1 i5 = laws_heldIntS_l2 N (fun (k1 : Int) => kX ([.u, .val I .i k1] ++ List.replicate 19 .u)) n a0 k1 i5
  | 0, _, _, _ => rfl
  | m + 1, a0, k1, i5 => by
    have hrec : laws_heldIntS_R2 (codeAt Try.f31 [1, 0, 1, 0, 0]) N m (exK (finish (A_laws_heldIntS) S_laws_heldIntS Try.f31.results.toList) 0 ((A_laws_heldIntS).shape 15) kX kO) = (laws_heldIntS_l2 N (fun (k1 : Int) => kX ([.u, .val I .i k1] ++ List.replicate 19 .u)) m) := (funext fun a0 => (funext fun k1 => (funext fun i5 => laws_heldIntS_iter2 N kX kO m a0 k1 i5)))
    refine (laws_heldIntS_step2 N m kX kO a0 k1 i5).trans ?_
    rw [hrec]
    rfl
theorem laws_heldIntS_after2 (N : Nat) (k1 : Int) : (fun st' => run (A_laws_heldIntS) N (codeAt Try.f31 [1, 1]) st' (finish (A_laws_heldIntS) S_laws_heldIntS Try.f31.results.toList)) ([.u, .val I .i k1] ++ List.replicate 19 .u) = laws_heldIntS_a2 k1 := by kernel_rfl
theorem laws_heldIntS_in2 (N : Nat) (a0 : (List Int)) (k1 : Int) (i5 : Int) : laws_heldIntS_R2 (codeAt Try.f31 [1, 0, 1, 0, 0]) N N (blockK 0 (seqK ((A_laws_heldIntS).shape 15) (run (A_laws_heldIntS) N (codeAt Try.f31 [1, 1])) (finish (A_laws_heldIntS) S_laws_heldIntS Try.f31.results.toList))) a0 k1 i5 = laws_heldIntS_F2 N a0 k1 i5 :=
  have h : (fun (k1 : Int) => (fun st' => run (A_laws_heldIntS) N (codeAt Try.f31 [1, 1]) st' (finish (A_laws_heldIntS) S_laws_heldIntS Try.f31.results.toList)) ([.u, .val I .i k1] ++ List.replicate 19 .u)) = (laws_heldIntS_a2) := (funext fun k1 => laws_heldIntS_after2 N k1)
  have e : laws_heldIntS_R2 (codeAt Try.f31 [1, 0, 1, 0, 0]) N N (blockK 0 (seqK ((A_laws_heldIntS).shape 15) (run (A_laws_heldIntS) N (codeAt Try.f31 [1, 1])) (finish (A_laws_heldIntS) S_laws_heldIntS Try.f31.results.toList))) a0 k1 i5 = laws_heldIntS_R2 (codeAt Try.f31 [1, 0, 1, 0, 0]) N N (exK (finish (A_laws_heldIntS) S_laws_heldIntS Try.f31.results.toList) 0 ((A_laws_heldIntS).shape 15) (fun st' => run (A_laws_heldIntS) N (codeAt Try.f31 [1, 1]) st' (finish (A_laws_heldIntS) S_laws_heldIntS Try.f31.results.toList)) (fun j st => (blockK 0 (seqK ((A_laws_heldIntS).shape 15) (run (A_laws_heldIntS) N (codeAt Try.f31 [1, 1])) (finish (A_laws_heldIntS) S_laws_heldIntS Try.f31.results.toList))) (.exit j) st)) a0 k1 i5 := iter_ex (fun st => by kernel_rfl) (fun st => by kernel_rfl)
  (e.trans (laws_heldIntS_iter2 N (fun st' => run (A_laws_heldIntS) N (codeAt Try.f31 [1, 1]) st' (finish (A_laws_heldIntS) S_laws_heldIntS Try.f31.results.toList)) (fun j st => (blockK 0 (seqK ((A_laws_heldIntS).shape 15) (run (A_laws_heldIntS) N (codeAt Try.f31 [1, 1])) (finish (A_laws_heldIntS) S_laws_heldIntS Try.f31.results.toList))) (.exit j) st) N a0 k1 i5)).trans (congrArg (fun k => laws_heldIntS_l2 N k N a0 k1 i5) h)
theorem run0_laws_heldIntS (N : Nat) (x : (S_laws_heldIntS).a.den) : runF (A_laws_heldIntS) N Try.f31 S_laws_heldIntS x = (laws_heldIntS_s (laws_heldIntS_R2 (codeAt Try.f31 [1, 0, 1, 0, 0]) N N (blockK 0 (seqK ((A_laws_heldIntS).shape 15) (run (A_laws_heldIntS) N (codeAt Try.f31 [1, 1])) (finish (A_laws_heldIntS) S_laws_heldIntS Try.f31.results.toList)))) x.1 x.2.1) := by kernel_rfl
theorem run_laws_heldIntS (N : Nat) (x : (S_laws_heldIntS).a.den) : runF (A_laws_heldIntS) N Try.f31 S_laws_heldIntS x = laws_heldIntS N x.1 x.2.1 := by
  refine (run0_laws_heldIntS N x).trans ?_
  rw [(funext fun a0 => (funext fun k1 => (funext fun i5 => laws_heldIntS_in2 N a0 k1 i5)))]
  rfl
theorem fn_laws_heldIntS : FnOk Try.prog 31 := ⟨_, Try.func31, by kernel_rfl, by kernel_rfl⟩
theorem good_laws_heldIntS : Gx.Good Try.prog 31 S_laws_heldIntS := good_of_run Try.func31 (of_decide_eq_true (by kernel_rfl)) fun x r h => ⟨A_laws_heldIntS, big, mkCfg_ok tabOk, mkCfg_sigs (show SigsOk Try.prog [] from trivial), (run_laws_heldIntS big x).trans h⟩

/-! laws_FnExactJoinWords -/
def laws_FnExactJoinWords_s (aS_0 : (List Int)) (aT_1 : (List Int)) : Option (Bool × Unit) :=
  cond (decide ((1048576 : Int) < (aS_0.length : Int)))
  (some (true, (())))
  (cond (decide ((1048576 : Int) < (aT_1.length : Int)))
  (some (true, (())))
  ((laws_toIntS big aS_0).bind fun rq1 =>
  (laws_toIntS big aT_1).bind fun rq2 =>
  (spec_JoinWords rq1.1 rq2.1).bind fun rq3 =>
  (laws_toIntS big aS_0).bind fun rq4 =>
  (laws_toIntS big aT_1).bind fun rq5 =>
  (impl_JoinWords rq4.1 rq5.1).bind fun rq6 =>
  (laws_eqIntS big rq6.1.1 rq3.1.1).bind fun rq7 =>
  cond (!rq7.1)
  (some (false, (())))
  (cond (((((), rq6.1.2).2).1) != rq3.1.2.1)
  (some (false, (())))
  ((laws_toIntS big aS_0).bind fun rq8 =>
  (laws_eqIntS big rq4.1 rq8.1).bind fun rq9 =>
  cond (!rq9.1)
  (some (false, (())))
  ((laws_toIntS big aT_1).bind fun rq10 =>
  (laws_eqIntS big rq5.1 rq10.1).bind fun rq11 =>
  cond (!rq11.1)
  (some (false, (())))
  ((laws_markIntS big rq4.1 (1 : Int)).bind fun rq12 =>
  (laws_markIntS big rq5.1 rq12.1).bind fun rq13 =>
  cond (decide (rq13.1 < (0 : Int)))
  (some (false, (())))
  ((laws_eqIntS big rq6.1.1 rq3.1.1).bind fun rq14 =>
  cond (!rq14.1)
  (some (false, (())))
  (cond (((((), rq6.1.2).2).1) != rq3.1.2.1)
  (some (false, (())))
  ((laws_markIntS big rq6.1.1 (1 : Int)).bind fun rq15 =>
  (laws_heldIntS big rq15.2.1 (1 : Int)).bind fun rq16 =>
  cond (decide (rq16.1 < (0 : Int)))
  (some (false, (())))
  (cond (decide (rq16.1 ≠ rq15.1))
  (some (false, (())))
  ((laws_toIntS big aS_0).bind fun rq17 =>
  (laws_toIntS big aT_1).bind fun rq18 =>
  (impl_JoinWords rq17.1 rq18.1).bind fun rq19 =>
  (laws_eqIntS big rq19.1.1 rq3.1.1).bind fun rq20 =>
  cond (!rq20.1)
  (some (false, (())))
  (cond (((((), rq19.1.2).2).1) != rq3.1.2.1)
  (some (false, (())))
  ((laws_heldIntS big rq15.2.1 (1 : Int)).bind fun rq21 =>
  cond (decide (rq21.1 < (0 : Int)))
  (some (false, (())))
  (cond (decide (rq21.1 ≠ rq15.1))
  (some (false, (())))
  (some (true, (())))))))))))))))))
def laws_FnExactJoinWords (aS_0 : (List Int)) (aT_1 : (List Int)) : Option (Bool × Unit) := laws_FnExactJoinWords_s aS_0 aT_1
def S_laws_FnExactJoinWords : Sig := { a := (.pair (.sl I) (.pair (.sl I) .unit)), md := [0, 0], mf := [], m := .unit, r := .bool, rf := .i, f := fun x => laws_FnExactJoinWords x.1 x.2.1 }
def A_laws_FnExactJoinWords : Cfg := mkCfg tab [(18, S_laws_toIntS), (28, S_spec_JoinWords), (29, S_impl_JoinWords), (20, S_laws_eqIntS), (30, S_laws_markIntS), (31, S_laws_heldIntS)] []
theorem run_laws_FnExactJoinWords (N : Nat) (x : (S_laws_FnExactJoinWords).a.den) : runF (A_laws_FnExactJoinWords) N Try.f7 S_laws_FnExactJoinWords x = laws_FnExactJoinWords x.1 x.2.1 := by kernel_rfl
theorem fn_laws_FnExactJoinWords : FnOk Try.prog 7 := ⟨_, Try.func7, by kernel_rfl, by kernel_rfl⟩
theorem good_laws_FnExactJoinWords : Gx.Good Try.prog 7 S_laws_FnExactJoinWords := good_of_run Try.func7 (of_decide_eq_true (by kernel_rfl)) fun x r h => ⟨A_laws_FnExactJoinWords, big, mkCfg_ok tabOk, mkCfg_sigs (show SigsOk Try.prog [(18, S_laws_toIntS), (28, S_spec_JoinWords), (29, S_impl_JoinWords), (20, S_laws_eqIntS), (30, S_laws_markIntS), (31, S_laws_heldIntS)] from ⟨⟨fn_laws_toIntS, good_laws_toIntS⟩, ⟨fn_spec_JoinWords, good_spec_JoinWords⟩, ⟨fn_impl_JoinWords, good_impl_JoinWords⟩, ⟨fn_laws_eqIntS, good_laws_eqIntS⟩, ⟨fn_laws_markIntS, good_laws_markIntS⟩, ⟨fn_laws_heldIntS, good_laws_heldIntS⟩, trivial⟩), (run_laws_FnExactJoinWords big x).trans h⟩

/-! spec_MeetWords -/
def spec_MeetWords_s (s_0 : (List Int)) (t_1 : (List Int)) : Option (((List Int) × (Bool × Unit)) × Unit) :=
  (spec_l28Two s_0 t_1).bind fun rq1 =>
  cond (!rq1.1)
  (some (([], false, ()), (())))
  ((spec_l28Put (-1 : Int) s_0 t_1).bind fun rq2 =>
  (spec_l28Give rq2.1).bind fun rq3 =>
  some ((rq3.1.1, rq3.1.2.1, ()), (())))
def spec_MeetWords (s_0 : (List Int)) (t_1 : (List Int)) : Option (((List Int) × (Bool × Unit)) × Unit) := spec_MeetWords_s s_0 t_1
def S_spec_MeetWords : Sig := { a := (.pair (.sl I) (.pair (.sl I) .unit)), md := [0, 0], mf := [], m := .unit, r := (.tup (.pair (.sl I) (.pair .bool .unit))), rf := .i, f := fun x => spec_MeetWords x.1 x.2.1 }
def A_spec_MeetWords : Cfg := mkCfg tab [(55, S_spec_l28Two), (57, S_spec_l28Put), (56, S_spec_l28Give)] []
theorem run_spec_MeetWords (N : Nat) (x : (S_spec_MeetWords).a.den) : runF (A_spec_MeetWords) N Try.f32 S_spec_MeetWords x = spec_MeetWords x.1 x.2.1 := by kernel_rfl
theorem fn_spec_MeetWords : FnOk Try.prog 32 := ⟨_, Try.func32, by kernel_rfl, by kernel_rfl⟩
theorem good_spec_MeetWords : Gx.Good Try.prog 32 S_spec_MeetWords := good_of_run Try.func32 (of_decide_eq_true (by kernel_rfl)) fun x r h => ⟨A_spec_MeetWords, big, mkCfg_ok tabOk, mkCfg_sigs (show SigsOk Try.prog [(55, S_spec_l28Two), (57, S_spec_l28Put), (56, S_spec_l28Give)] from ⟨⟨fn_spec_l28Two, good_spec_l28Two⟩, ⟨fn_spec_l28Put, good_spec_l28Put⟩, ⟨fn_spec_l28Give, good_spec_l28Give⟩, trivial⟩), (run_spec_MeetWords big x).trans h⟩

/-! impl_MeetWords -/
def impl_MeetWords_s (s_0 : (List Int)) (t_1 : (List Int)) : Option (((List Int) × (Bool × Unit)) × Unit) :=
  (impl_combined (-1 : Int) s_0 t_1).bind fun rq1 =>
  some ((rq1.1.1, (((), rq1.1.2).2).1, ()), (()))
def impl_MeetWords (s_0 : (List Int)) (t_1 : (List Int)) : Option (((List Int) × (Bool × Unit)) × Unit) := impl_MeetWords_s s_0 t_1
def S_impl_MeetWords : Sig := { a := (.pair (.sl I) (.pair (.sl I) .unit)), md := [0, 0], mf := [], m := .unit, r := (.tup (.pair (.sl I) (.pair .bool .unit))), rf := (.p (.o .i) .i), f := fun x => impl_MeetWords x.1 x.2.1 }
def A_impl_MeetWords : Cfg := mkCfg tab [(58, S_impl_combined)] []
theorem run_impl_MeetWords (N : Nat) (x : (S_impl_MeetWords).a.den) : runF (A_impl_MeetWords) N Try.f33 S_impl_MeetWords x = impl_MeetWords x.1 x.2.1 := by kernel_rfl
theorem fn_impl_MeetWords : FnOk Try.prog 33 := ⟨_, Try.func33, by kernel_rfl, by kernel_rfl⟩
theorem good_impl_MeetWords : Gx.Good Try.prog 33 S_impl_MeetWords := good_of_run Try.func33 (of_decide_eq_true (by kernel_rfl)) fun x r h => ⟨A_impl_MeetWords, big, mkCfg_ok tabOk, mkCfg_sigs (show SigsOk Try.prog [(58, S_impl_combined)] from ⟨⟨fn_impl_combined, good_impl_combined⟩, trivial⟩), (run_impl_MeetWords big x).trans h⟩

/-! laws_FnExactMeetWords -/
def laws_FnExactMeetWords_s (aS_0 : (List Int)) (aT_1 : (List Int)) : Option (Bool × Unit) :=
  cond (decide ((1048576 : Int) < (aS_0.length : Int)))
  (some (true, (())))
  (cond (decide ((1048576 : Int) < (aT_1.length : Int)))
  (some (true, (())))
  ((laws_toIntS big aS_0).bind fun rq1 =>
  (laws_toIntS big aT_1).bind fun rq2 =>
  (spec_MeetWords rq1.1 rq2.1).bind fun rq3 =>
  (laws_toIntS big aS_0).bind fun rq4 =>
  (laws_toIntS big aT_1).bind fun rq5 =>
  (impl_MeetWords rq4.1 rq5.1).bind fun rq6 =>
  (laws_eqIntS big rq6.1.1 rq3.1.1).bind fun rq7 =>
  cond (!rq7.1)
  (some (false, (())))
  (cond (((((), rq6.1.2).2).1) != rq3.1.2.1)
  (some (false, (())))
  ((laws_toIntS big aS_0).bind fun rq8 =>
  (laws_eqIntS big rq4.1 rq8.1).bind fun rq9 =>
  cond (!rq9.1)
  (some (false, (())))
  ((laws_toIntS big aT_1).bind fun rq10 =>
  (laws_eqIntS big rq5.1 rq10.1).bind fun rq11 =>
  cond (!rq11.1)
  (some (false, (())))
  ((laws_markIntS big rq4.1 (1 : Int)).bind fun rq12 =>
  (laws_markIntS big rq5.1 rq12.1).bind fun rq13 =>
  cond (decide (rq13.1 < (0 : Int)))
  (some (false, (())))
  ((laws_eqIntS big rq6.1.1 rq3.1.1).bind fun rq14 =>
  cond (!rq14.1)
  (some (false, (())))
  (cond (((((), rq6.1.2).2).1) != rq3.1.2.1)
  (some (false, (())))
  ((laws_markIntS big rq6.1.1 (1 : Int)).bind fun rq15 =>
  (laws_heldIntS big rq15.2.1 (1 : Int)).bind fun rq16 =>
  cond (decide (rq16.1 < (0 : Int)))
  (some (false, (())))
  (cond (decide (rq16.1 ≠ rq15.1))
  (some (false, (())))
  ((laws_toIntS big aS_0).bind fun rq17 =>
  (laws_toIntS big aT_1).bind fun rq18 =>
  (impl_MeetWords rq17.1 rq18.1).bind fun rq19 =>
  (laws_eqIntS big rq19.1.1 rq3.1.1).bind fun rq20 =>
  cond (!rq20.1)
  (some (false, (())))
  (cond (((((), rq19.1.2).2).1) != rq3.1.2.1)
  (some (false, (())))
  ((laws_heldIntS big rq15.2.1 (1 : Int)).bind fun rq21 =>
  cond (decide (rq21.1 < (0 : Int)))
  (some (false, (())))
  (cond (decide (rq21.1 ≠ rq15.1))
  (some (false, (())))
  (some (true, (())))))))))))))))))
def laws_FnExactMeetWords (aS_0 : (List Int)) (aT_1 : (List Int)) : Option (Bool × Unit) := laws_FnExactMeetWords_s aS_0 aT_1
def S_laws_FnExactMeetWords : Sig := { a := (.pair (.sl I) (.pair (.sl I) .unit)), md := [0, 0], mf := [], m := .unit, r := .bool, rf := .i, f := fun x => laws_FnExactMeetWords x.1 x.2.1 }
def A_laws_FnExactMeetWords : Cfg := mkCfg tab [(18, S_laws_toIntS), (32, S_spec_MeetWords), (33, S_impl_MeetWords), (20, S_laws_eqIntS), (30, S_laws_markIntS), (31, S_laws_heldIntS)] []
theorem run_laws_FnExactMeetWords (N : Nat) (x : (S_laws_FnExactMeetWords).a.den) : runF (A_laws_FnExactMeetWords) N Try.f8 S_laws_FnExactMeetWords x = laws_FnExactMeetWords x.1 x.2.1 := by kernel_rfl
theorem fn_laws_FnExactMeetWords : FnOk Try.prog 8 := ⟨_, Try.func8, by kernel_rfl, by kernel_rfl⟩
theorem good_laws_FnExactMeetWords : Gx.Good Try.prog 8 S_laws_FnExactMeetWords := good_of_run Try.func8 (of_decide_eq_true (by kernel_rfl)) fun x r h => ⟨A_laws_FnExactMeetWords, big, mkCfg_ok tabOk, mkCfg_sigs (show SigsOk Try.prog [(18, S_laws_toIntS), (32, S_spec_MeetWords), (33, S_impl_MeetWords), (20, S_laws_eqIntS), (30, S_laws_markIntS), (31, S_laws_heldIntS)] from ⟨⟨fn_laws_toIntS, good_laws_toIntS⟩, ⟨fn_spec_MeetWords, good_spec_MeetWords⟩, ⟨fn_impl_MeetWords, good_impl_MeetWords⟩, ⟨fn_laws_eqIntS, good_laws_eqIntS⟩, ⟨fn_laws_markIntS, good_laws_markIntS⟩, ⟨fn_laws_heldIntS, good_laws_heldIntS⟩, trivial⟩), (run_laws_FnExactMeetWords big x).trans h⟩

/-! spec_l28Dual -/
def spec_l28Dual_b3 (rec : (List Int) → (List Int) → Int → Option ((List Int) × Unit)) (k : (List Int) → Option ((List Int) × Unit)) (w0 : (List Int)) (out3 : (List Int)) (i4 : Int) : Option ((List Int) × Unit) :=
  cond (decide (i4 < (w0.length : Int)))
  ((atI w0 i4).bind fun xq1 =>
  cond (decide (xq1 < (0 : Int)))
  ((atI w0 i4).bind fun xq2 =>
  (appI out3 [IntKind.i64.wrap ((-3 : Int) - xq2)]).bind fun xq3 =>
  rec w0 xq3 (IntKind.i64.wrap (i4 + (1 : Int))))
  ((atI w0 i4).bind fun xq4 =>
  (appI out3 [xq4]).bind fun xq5 =>
  rec w0 xq5 (IntKind.i64.wrap (i4 + (1 : Int)))))
  (k out3)
def spec_l28Dual_a3 (out3 : (List Int)) : Option ((List Int) × Unit) :=
  some (out3, (()))
def spec_l28Dual_s (L3 : (List Int) → (List Int) → Int → Option ((List Int) × Unit)) (w_0 : (List Int)) : Option ((List Int) × Unit) :=
  L3 w_0 [] (0 : Int)
def spec_l28Dual_l3 (N : Nat) (k : (List Int) → Option ((List Int) × Unit)) : Nat → (List Int) → (List Int) → Int → Option ((List Int) × Unit)
  | 0, _, _, _ => none
  | m + 1, w0, out3, i4 => spec_l28Dual_b3 (spec_l28Dual_l3 N k m) k w0 out3 i4
def spec_l28Dual_F3 (N : Nat) (w0 : (List Int)) (out3 : (List Int)) (i4 : Int) : Option ((List Int) × Unit) := spec_l28Dual_l3 N (spec_l28Dual_a3) N w0 out3 i4
def spec_l28Dual (N : Nat) (w_0 : (List Int)) : Option ((List Int) × Unit) := spec_l28Dual_s (spec_l28Dual_F3 N) w_0
def S_spec_l28Dual : Sig := { a := (.pair (.sl I) .unit), md := [0], mf := [], m := .unit, r := (.sl I), rf := (.o .i), f := fun x => spec_l28Dual big x.1 }
def A_spec_l28Dual : Cfg := mkCfg tab [] [(6, [.as (.sl I) .i, .drop, .drop, .as (.sl I) (.o .i), .as I .i]), (17, [.drop, .drop, .drop, .as (.sl I) (.o .i)])]
def spec_l28Dual_R3 (cd : Code) (N n : Nat) (K : Ex → St → Option ((List Int) × Unit)) (w0 : (List Int)) (out3 : (List Int)) (i4 : Int) : Option ((List Int) × Unit) := iter ((A_spec_l28Dual).shape 6) (run (A_spec_l28Dual) N cd) n ([.val (.sl I) .i w0, .u, .u, .val (.sl I) (.o .i) out3, .val I .i i4] ++ List.replicate 28 .u) K
theorem spec_l28Dual_step3 (N : Nat) (m : Nat) (kX : St → Option ((List Int) × Unit)) (kO : Nat → St → Option ((List Int) × Unit)) (w0 : (List Int)) (out3 : (List Int)) (i4 : Int) : spec_l28Dual_R3 (codeAt Try.f59 [1, 1, 0, 1, 0, 0]) N (m + 1) (exK (finish (A_spec_l28Dual) S_spec_l28Dual Try.f59.results.toList) 0 ((A_spec_l28Dual).shape 17) kX kO) w0 out3 i4 = spec_l28Dual_b3 (spec_l28Dual_R3 (codeAt Try.f59 [1, 1, 0, 1, 0, 0]) N m (exK (finish (A_spec_l28Dual) S_spec_l28Dual Try.f59.results.toList) 0 ((A_spec_l28Dual).shape 17) kX kO)) (fun (out3 : (List Int)) => kX ([.u, .u, .u, .val (.sl I) (.o .i) out3] ++ List.replicate 29 .u)) w0 out3 i4 := by kernel_rfl
theorem spec_l28Dual_iter3 (N : Nat) (kX : St → Option ((List Int) × Unit)) (kO : Nat → St → Option ((List Int) × Unit)) : ∀ (n : Nat) (w0 : (List Int)) (out3 : (List Int)) (i4 : Int), spec_l28Dual_R3 (codeAt Try.f59 [1, 1, 0, 1, 0, 0]) N n (exK (finish (A_spec_l28Dual) S_spec_l28Dual Try.f59.results.toList) 0 ((A_spec_l28Dual).shape 17) kX kO) w0 out3 i4 = spec_l28Dual_l3 N (fun (out3 : (List Int)) => kX ([.u, .u, .u, .val (.sl I) (.o .i) out3] ++ List.replicate 29 .u)) n w0 out3 i4
  | 0, _, _, _ => rfl
  | m + 1, w0, out3, i4 => by
    have hrec : spec_l28Dual_R3 (codeAt Try.f59 [1, 1, 0, 1, 0, 0]) N m (exK (finish (A_spec_l28Dual) S_spec_l28Dual Try.f59.results.toList) 0 ((A_spec_l28Dual).shape 17) kX kO) = (spec_l28Dual_l3 N (fun (out3 : (List Int)) => kX ([.u, .u, .u, .val (.sl I) (.o .i) out3] ++ List.replicate 29 .u)) m) := (funext fun w0 => (funext fun out3 => (funext fun i4 => spec_l28Dual_iter3 N kX kO m w0 out3 i4)))
    refine (spec_l28Dual_step3 N m kX kO w0 out3 i4).trans ?_
    rw [hrec]
    rfl
theorem spec_l28Dual_after3 (N : Nat) (out3 : (List Int)) : (fun st' => run (A_spec_l28Dual) N (codeAt Try.f59 [1, 1, 1]) st' (finish (A_spec_l28Dual) S_spec_l28Dual Try.f59.results.toList)) ([.u, .u, .u, .val (.sl I) (.o .i) out3] ++ List.replicate 29 .u) = spec_l28Dual_a3 out3 := by kernel_rfl
theorem spec_l28Dual_in3 (N : Nat) (w0 : (List Int)) (out3 : (List Int)) (i4 : Int) : spec_l28Dual_R3 (codeAt Try.f59 [1, 1, 0, 1, 0, 0]) N N (blockK 0 (seqK ((A_spec_l28Dual).shape 17) (run (A_spec_l28Dual) N (codeAt Try.f59 [1, 1, 1])) (finish (A_spec_l28Dual) S_spec_l28Dual Try.f59.results.toList))) w0 out3 i4 = spec_l28Dual_F3 N w0 out3 i4 :=
  have h : (fun (out3 : (List Int)) => (fun st' => run (A_spec_l28Dual) N (codeAt Try.f59 [1, 1, 1]) st' (finish (A_spec_l28Dual) S_spec_l28Dual Try.f59.results.toList)) ([.u, .u, .u, .val (.sl I) (.o .i) out3] ++ List.replicate 29 .u)) = (spec_l28Dual_a3) := (funext fun out3 => spec_l28Dual_after3 N out3)
  have e : spec_l28Dual_R3 (codeAt Try.f59 [1, 1, 0, 1, 0, 0]) N N (blockK 0 (seqK ((A_spec_l28Dual).shape 17) (run (A_spec_l28Dual) N (codeAt Try.f59 [1, 1, 1])) (finish (A_spec_l28Dual) S_spec_l28Dual Try.f59.results.toList))) w0 out3 i4 = spec_l28Dual_R3 (codeAt Try.f59 [1, 1, 0, 1, 0, 0]) N N (exK (finish (A_spec_l28Dual) S_spec_l28Dual Try.f59.results.toList) 0 ((A_spec_l28Dual).shape 17) (fun st' => run (A_spec_l28Dual) N (codeAt Try.f59 [1, 1, 1]) st' (finish (A_spec_l28Dual) S_spec_l28Dual Try.f59.results.toList)) (fun j st => (blockK 0 (seqK ((A_spec_l28Dual).shape 17) (run (A_spec_l28Dual) N (codeAt Try.f59 [1, 1, 1])) (finish (A_spec_l28Dual) S_spec_l28Dual Try.f59.results.toList))) (.exit j) st)) w0 out3 i4 := iter_ex (fun st => by kernel_rfl) (fun st => by kernel_rfl)
  (e.trans (spec_l28Dual_iter3 N (fun st' => run (A_spec_l28Dual) N (codeAt Try.f59 [1, 1, 1]) st' (finish (A_spec_l28Dual) S_spec_l28Dual Try.f59.results.toList)) (fun j st => (blockK 0 (seqK ((A_spec_l28Dual).shape 17) (run (A_spec_l28Dual) N (codeAt Try.f59 [1, 1, 1])) (finish (A_spec_l28Dual) S_spec_l28Dual Try.f59.results.toList))) (.exit j) st) N w0 out3 i4)).trans (congrArg (fun k => spec_l28Dual_l3 N k N w0 out3 i4) h)
theorem run0_spec_l28Dual (N : Nat) (x : (S_spec_l28Dual).a.den) : runF (A_spec_l28Dual) N Try.f59 S_spec_l28Dual x = (spec_l28Dual_s (spec_l28Dual_R3 (codeAt Try.f59 [1, 1, 0, 1, 0, 0]) N N (blockK 0 (seqK ((A_spec_l28Dual).shape 17) (run (A_spec_l28Dual) N (codeAt Try.f59 [1, 1, 1])) (finish (A_spec_l28Dual) S_spec_l28Dual Try.f59.results.toList)))) x.1) := by kernel_rfl
theorem run_spec_l28Dual (N : Nat) (x : (S_spec_l28Dual).a.den) : runF (A_spec_l28Dual) N Try.f59 S_spec_l28Dual x = spec_l28Dual N x.1 := by
  refine (run0_spec_l28Dual N x).trans ?_
  rw [(funext fun w0 => (funext fun out3 => (funext fun i4 => spec_l28Dual_in3 N w0 out3 i4)))]
  rfl
theorem fn_spec_l28Dual : FnOk Try.prog 59 := ⟨_, Try.func59, by kernel_rfl, by kernel_rfl⟩
theorem good_spec_l28Dual : Gx.Good Try.prog 59 S_spec_l28Dual := good_of_run Try.func59 (of_decide_eq_true (by kernel_rfl)) fun x r h => ⟨A_spec_l28Dual, big, mkCfg_ok tabOk, mkCfg_sigs (show SigsOk Try.prog [] from trivial), (run_spec_l28Dual big x).trans h⟩

/-! spec_DualWord -/
def spec_DualWord_s (w_0 : (List Int)) : Option (((List Int) × (Bool × Unit)) × Unit) :=
  (spec_l28Good w_0).bind fun rq1 =>
  cond (!rq1.1)
  (some (([], false, ()), (())))
  ((spec_l28Dual big w_0).bind fun rq2 =>
  some ((rq2.1, true, ()), (())))
def spec_DualWord (w_0 : (List Int)) : Option (((List Int) × (Bool × Unit)) × Unit) := spec_DualWord_s w_0
def S_spec_DualWord : Sig := { a := (.pair (.sl I) .unit), md := [0], mf := [], m := .unit, r := (.tup (.pair (.sl I) (.pair .bool .unit))), rf := (.p (.o .i) .i), f := fun x => spec_DualWord x.1 }
def A_spec_DualWord : Cfg := mkCfg tab [(48, S_spec_l28Good), (59, S_spec_l28Dual)] []
theorem run_spec_DualWord (N : Nat) (x : (S_spec_DualWord).a.den) : runF (A_spec_DualWord) N Try.f34 S_spec_DualWord x = spec_DualWord x.1 := by kernel_rfl
theorem fn_spec_DualWord : FnOk Try.prog 34 := ⟨_, Try.func34, by kernel_rfl, by kernel_rfl⟩
theorem good_spec_DualWord : Gx.Good Try.prog 34 S_spec_DualWord := good_of_run Try.func34 (of_decide_eq_true (by kernel_rfl)) fun x r h => ⟨A_spec_DualWord, big, mkCfg_ok tabOk, mkCfg_sigs (show SigsOk Try.prog [(48, S_spec_l28Good), (59, S_spec_l28Dual)] from ⟨⟨fn_spec_l28Good, good_spec_l28Good⟩, ⟨fn_spec_l28Dual, good_spec_l28Dual⟩, trivial⟩), (run_spec_DualWord big x).trans h⟩

/-! impl_clone -/
def impl_clone_s (list_0 : (List Int)) : Option ((List Int) × Unit) :=
  (appI [] list_0).bind fun xq1 =>
  some (xq1, (()))
def impl_clone (list_0 : (List Int)) : Option ((List Int) × Unit) := impl_clone_s list_0
def S_impl_clone : Sig := { a := (.pair (.sl I) .unit), md := [0], mf := [], m := .unit, r := (.sl I), rf := (.o .i), f := fun x => impl_clone x.1 }
def A_impl_clone : Cfg := mkCfg tab [] []
theorem run_impl_clone (N : Nat) (x : (S_impl_clone).a.den) : runF (A_impl_clone) N Try.f71 S_impl_clone x = impl_clone x.1 := by kernel_rfl
theorem fn_impl_clone : FnOk Try.prog 71 := ⟨_, Try.func71, by kernel_rfl, by kernel_rfl⟩
theorem good_impl_clone : Gx.Good Try.prog 71 S_impl_clone := good_of_run Try.func71 (of_decide_eq_true (by kernel_rfl)) fun x r h => ⟨A_impl_clone, big, mkCfg_ok tabOk, mkCfg_sigs (show SigsOk Try.prog [] from trivial), (run_impl_clone big x).trans h⟩

/-! impl_dualWord -/
def impl_dualWord_b3 (rec : (List Int) → Int → Int → Option ((List Int) × Unit)) (k : (List Int) → Option ((List Int) × Unit)) (d3 : (List Int)) (t9 : Int) (t10 : Int) : Option ((List Int) × Unit) :=
  cond (decide (t10 < t9))
  ((atI d3 t10).bind fun _ =>
  (d3[t10.toNat]?).bind fun xq2 =>
  cond (decide (xq2 < (0 : Int)))
  ((atI d3 t10).bind fun _ =>
  (d3[t10.toNat]?).bind fun xq3 =>
  rec (d3.set t10.toNat (IntKind.i64.wrap ((-3 : Int) - xq2))) t9 (IntKind.i64.wrap (t10 + (1 : Int))))
  (rec d3 t9 (IntKind.i64.wrap (t10 + (1 : Int)))))
  (k d3)
def impl_dualWord_a3 (d3 : (List Int)) : Option ((List Int) × Unit) :=
  some (d3, (()))
def impl_dualWord_s (L3 : (List Int) → Int → Int → Option ((List Int) × Unit)) (w_0 : (List Int)) : Option ((List Int) × Unit) :=
  (impl_clone w_0).bind fun rq1 =>
  L3 rq1.1 (rq1.1.length : Int) (0 : Int)
def impl_dualWord_l3 (N : Nat) (k : (List Int) → Option ((List Int) × Unit)) : Nat → (List Int) → Int → Int → Option ((List Int) × Unit)
  | 0, _, _, _ => none
  | m + 1, d3, t9, t10 => impl_dualWord_b3 (impl_dualWord_l3 N k m) k d3 t9 t10
def impl_dualWord_F3 (N : Nat) (d3 : (List Int)) (t9 : Int) (t10 : Int) : Option ((List Int) × Unit) := impl_dualWord_l3 N (impl_dualWord_a3) N d3 t9 t10
def impl_dualWord (N : Nat) (w_0 : (List Int)) : Option ((List Int) × Unit) := impl_dualWord_s (impl_dualWord_F3 N) w_0
def S_impl_dualWord : Sig := { a := (.pair (.sl I) .unit), md := [0], mf := [], m := .unit, r := (.sl I), rf := (.o .i), f := fun x => impl_dualWord big x.1 }
def A_impl_dualWord : Cfg := mkCfg tab [(71, S_impl_clone)] [(6, [.drop, .drop, .drop, .as (.sl I) (.o .i), .drop, .drop, .drop, .drop, .keep, .as I .i, .as I .i]), (17, [.drop, .drop, .drop, .as (.sl I) (.o .i)])]
def impl_dualWord_R3 (cd : Code) (N n : Nat) (K : Ex → St → Option ((List Int) × Unit)) (d3 : (List Int)) (t9 : Int) (t10 : Int) : Option ((List Int) × Unit) := iter ((A_impl_dualWord).shape 6) (run (A_impl_dualWord) N cd) n ([.u, .u, .u, .val (.sl I) (.o .i) d3, .u, .u, .u, .u, .ref 3 [] .val, .val I .i t9, .val I .i t10] ++ List.replicate 13 .u) K
theorem impl_dualWord_step3 (N : Nat) (m : Nat) (kX : St → Option ((List Int) × Unit)) (kO : Nat → St → Option ((List Int) × Unit)) (d3 : (List Int)) (t9 : Int) (t10 : Int) : impl_dualWord_R3 (codeAt Try.f60 [1, 1, 0, 1, 0, 0]) N (m + 1) (exK (finish (A_impl_dualWord) S_impl_dualWord Try.f60.results.toList) 0 ((A_impl_dualWord).shape 17) kX kO) d3 t9 t10 = impl_dualWord_b3 (impl_dualWord_R3 (codeAt Try.f60 [1, 1, 0, 1, 0, 0]) N m (exK (finish (A_impl_dualWord) S_impl_dualWord Try.f60.results.toList) 0 ((A_impl_dualWord).shape 17) kX kO)) (fun (d3 : (List Int)) => kX ([.u, .u, .u, .val (.sl I) (.o .i) d3] ++ List.replicate 20 .u)) d3 t9 t10 := by kernel_rfl
theorem impl_dualWord_iter3 (N : Nat) (kX : St → Option ((List Int) × Unit)) (kO : Nat → St → Option ((List Int) × Unit)) : ∀ (n : Nat) (d3 : (List Int)) (t9 : Int) (t10 : Int), impl_dualWord_R3 (codeAt Try.f60 [1, 1, 0, 1, 0, 0]) N n (exK (finish (A_impl_dualWord) S_impl_dualWord Try.f60.results.toList) 0 ((A_impl_dualWord).shape 17) kX kO) d3 t9 t10 = impl_dualWord_l3 N (fun (d3 : (List Int)) => kX ([.u, .u, .u, .val (.sl I) (.o .i) d3] ++ List.replicate 20 .u)) n d3 t9 t10
  | 0, _, _, _ => rfl
  | m + 1, d3, t9, t10 => by
    have hrec : impl_dualWord_R3 (codeAt Try.f60 [1, 1, 0, 1, 0, 0]) N m (exK (finish (A_impl_dualWord) S_impl_dualWord Try.f60.results.toList) 0 ((A_impl_dualWord).shape 17) kX kO) = (impl_dualWord_l3 N (fun (d3 : (List Int)) => kX ([.u, .u, .u, .val (.sl I) (.o .i) d3] ++ List.replicate 20 .u)) m) := (funext fun d3 => (funext fun t9 => (funext fun t10 => impl_dualWord_iter3 N kX kO m d3 t9 t10)))
    refine (impl_dualWord_step3 N m kX kO d3 t9 t10).trans ?_
    rw [hrec]
    rfl
theorem impl_dualWord_after3 (N : Nat) (d3 : (List Int)) : (fun st' => run (A_impl_dualWord) N (codeAt Try.f60 [1, 1, 1]) st' (finish (A_impl_dualWord) S_impl_dualWord Try.f60.results.toList)) ([.u, .u, .u, .val (.sl I) (.o .i) d3] ++ List.replicate 20 .u) = impl_dualWord_a3 d3 := by kernel_rfl
theorem impl_dualWord_in3 (N : Nat) (d3 : (List Int)) (t9 : Int) (t10 : Int) : impl_dualWord_R3 (codeAt Try.f60 [1, 1, 0, 1, 0, 0]) N N (blockK 0 (seqK ((A_impl_dualWord).shape 17) (run (A_impl_dualWord) N (codeAt Try.f60 [1, 1, 1])) (finish (A_impl_dualWord) S_impl_dualWord Try.f60.results.toList))) d3 t9 t10 = impl_dualWord_F3 N d3 t9 t10 :=
  have h : (fun (d3 : (List Int)) => (fun st' => run (A_impl_dualWord) N (codeAt Try.f60 [1, 1, 1]) st' (finish (A_impl_dualWord) S_impl_dualWord Try.f60.results.toList)) ([.u, .u, .u, .val (.sl I) (.o .i) d3] ++ List.replicate 20 .u)) = (impl_dualWord_a3) := (funext fun d3 => impl_dualWord_after3 N d3)
  have e : impl_dualWord_R3 (codeAt Try.f60 [1, 1, 0, 1, 0, 0]) N N (blockK 0 (seqK ((A_impl_dualWord).shape 17) (run (A_impl_dualWord) N (codeAt Try.f60 [1, 1, 1])) (finish (A_impl_dualWord) S_impl_dualWord Try.f60.results.toList))) d3 t9 t10 = impl_dualWord_R3 (codeAt Try.f60 [1, 1, 0, 1, 0, 0]) N N (exK (finish (A_impl_dualWord) S_impl_dualWord Try.f60.results.toList) 0 ((A_impl_dualWord).shape 17) (fun st' => run (A_impl_dualWord) N (codeAt Try.f60 [1, 1, 1]) st' (finish (A_impl_dualWord) S_impl_dualWord Try.f60.results.toList)) (fun j st => (blockK 0 (seqK ((A_impl_dualWord).shape 17) (run (A_impl_dualWord) N (codeAt Try.f60 [1, 1, 1])) (finish (A_impl_dualWord) S_impl_dualWord Try.f60.results.toList))) (.exit j) st)) d3 t9 t10 := iter_ex (fun st => by kernel_rfl) (fun st => by kernel_rfl)
  (e.trans (impl_dualWord_iter3 N (fun st' => run (A_impl_dualWord) N (codeAt Try.f60 [1, 1, 1]) st' (finish (A_impl_dualWord) S_impl_dualWord Try.f60.results.toList)) (fun j st => (blockK 0 (seqK ((A_impl_dualWord).shape 17) (run (A_impl_dualWord) N (codeAt Try.f60 [1, 1, 1])) (finish (A_impl_dualWord) S_impl_dualWord Try.f60.results.toList))) (.exit j) st) N d3 t9 t10)).trans (congrArg (fun k => impl_dualWord_l3 N k N d3 t9 t10) h)
theorem run0_impl_dualWord (N : Nat) (x : (S_impl_dualWord).a.den) : runF (A_impl_dualWord) N Try.f60 S_impl_dualWord x = (impl_dualWord_s (impl_dualWord_R3 (codeAt Try.f60 [1, 1, 0, 1, 0, 0]) N N (blockK 0 (seqK ((A_impl_dualWord).shape 17) (run (A_impl_dualWord) N (codeAt Try.f60 [1, 1, 1])) (finish (A_impl_dualWord) S_impl_dualWord Try.f60.results.toList)))) x.1) := by kernel_rfl
theorem run_impl_dualWord (N : Nat) (x : (S_impl_dualWord).a.den) : runF (A_impl_dualWord) N Try.f60 S_impl_dualWord x = impl_dualWord N x.1 := by
  refine (run0_impl_dualWord N x).trans ?_
  rw [(funext fun d3 => (funext fun t9 => (funext fun t10 => impl_dualWord_in3 N d3 t9 t10)))]
  rfl
theorem fn_impl_dualWord : FnOk Try.prog 60 := ⟨_, Try.func60, by kernel_rfl, by kernel_rfl⟩
theorem good_impl_dualWord : Gx.Good Try.prog 60 S_impl_dualWord := good_of_run Try.func60 (of_decide_eq_true (by kernel_rfl)) fun x r h => ⟨A_impl_dualWord, big, mkCfg_ok tabOk, mkCfg_sigs (show SigsOk Try.prog [(71, S_impl_clone)] from ⟨⟨fn_impl_clone, good_impl_clone⟩, trivial⟩), (run_impl_dualWord big x).trans h⟩

/-! impl_DualWord -/
def impl_DualWord_s (w_0 : (List Int)) : Option (((List Int) × (Bool × Unit)) × Unit) :=
  (impl_IsWord w_0).bind fun rq1 =>
  cond (!rq1.1)
  (some (([], false, ()), (())))
  ((impl_dualWord big w_0).bind fun rq2 =>
  some ((rq2.1, true, ()), (())))
def impl_DualWord (w_0 : (List Int)) : Option (((List Int) × (Bool × Unit)) × Unit) := impl_DualWord_s w_0
def S_impl_DualWord : Sig := { a := (.pair (.sl I) .unit), md := [0], mf := [], m := .unit, r := (.tup (.pair (.sl I) (.pair .bool .unit))), rf := (.p (.o .i) .i), f := fun x => impl_DualWord x.1 }
def A_impl_DualWord : Cfg := mkCfg tab [(19, S_impl_IsWord), (60, S_impl_dualWord)] []
theorem run_impl_DualWord (N : Nat) (x : (S_impl_DualWord).a.den) : runF (A_impl_DualWord) N Try.f35 S_impl_DualWord x = impl_DualWord x.1 := by kernel_rfl
theorem fn_impl_DualWord : FnOk Try.prog 35 := ⟨_, Try.func35, by kernel_rfl, by kernel_rfl⟩
theorem good_impl_DualWord : Gx.Good Try.prog 35 S_impl_DualWord := good_of_run Try.func35 (of_decide_eq_true (by kernel_rfl)) fun x r h => ⟨A_impl_DualWord, big, mkCfg_ok tabOk, mkCfg_sigs (show SigsOk Try.prog [(19, S_impl_IsWord), (60, S_impl_dualWord)] from ⟨⟨fn_impl_IsWord, good_impl_IsWord⟩, ⟨fn_impl_dualWord, good_impl_dualWord⟩, trivial⟩), (run_impl_DualWord big x).trans h⟩

/-! laws_FnExactDualWord -/
def laws_FnExactDualWord_s (aW_0 : (List Int)) : Option (Bool × Unit) :=
  cond (decide ((1048576 : Int) < (aW_0.length : Int)))
  (some (true, (())))
  ((laws_toIntS big aW_0).bind fun rq1 =>
  (spec_DualWord rq1.1).bind fun rq2 =>
  (laws_toIntS big aW_0).bind fun rq3 =>
  (impl_DualWord rq3.1).bind fun rq4 =>
  (laws_eqIntS big rq4.1.1 rq2.1.1).bind fun rq5 =>
  cond (!rq5.1)
  (some (false, (())))
  (cond (((((), rq4.1.2).2).1) != ((((), rq2.1.2).2).1))
  (some (false, (())))
  ((laws_toIntS big aW_0).bind fun rq6 =>
  (laws_eqIntS big rq3.1 rq6.1).bind fun rq7 =>
  cond (!rq7.1)
  (some (false, (())))
  ((laws_markIntS big rq3.1 (1 : Int)).bind fun rq8 =>
  cond (decide (rq8.1 < (0 : Int)))
  (some (false, (())))
  ((laws_eqIntS big rq4.1.1 rq2.1.1).bind fun rq9 =>
  cond (!rq9.1)
  (some (false, (())))
  (cond (((((), rq4.1.2).2).1) != ((((), rq2.1.2).2).1))
  (some (false, (())))
  ((laws_markIntS big rq4.1.1 (1 : Int)).bind fun rq10 =>
  (laws_heldIntS big rq10.2.1 (1 : Int)).bind fun rq11 =>
  cond (decide (rq11.1 < (0 : Int)))
  (some (false, (())))
  (cond (decide (rq11.1 ≠ rq10.1))
  (some (false, (())))
  ((laws_toIntS big aW_0).bind fun rq12 =>
  (impl_DualWord rq12.1).bind fun rq13 =>
  (laws_eqIntS big rq13.1.1 rq2.1.1).bind fun rq14 =>
  cond (!rq14.1)
  (some (false, (())))
  (cond (((((), rq13.1.2).2).1) != ((((), rq2.1.2).2).1))
  (some (false, (())))
  ((laws_heldIntS big rq10.2.1 (1 : Int)).bind fun rq15 =>
  cond (decide (rq15.1 < (0 : Int)))
  (some (false, (())))
  (cond (decide (rq15.1 ≠ rq10.1))
  (some (false, (())))
  (some (true, (())))))))))))))))
def laws_FnExactDualWord (aW_0 : (List Int)) : Option (Bool × Unit) := laws_FnExactDualWord_s aW_0
def S_laws_FnExactDualWord : Sig := { a := (.pair (.sl I) .unit), md := [0], mf := [], m := .unit, r := .bool, rf := .i, f := fun x => laws_FnExactDualWord x.1 }
def A_laws_FnExactDualWord : Cfg := mkCfg tab [(18, S_laws_toIntS), (34, S_spec_DualWord), (35, S_impl_DualWord), (20, S_laws_eqIntS), (30, S_laws_markIntS), (31, S_laws_heldIntS)] []
theorem run_laws_FnExactDualWord (N : Nat) (x : (S_laws_FnExactDualWord).a.den) : runF (A_laws_FnExactDualWord) N Try.f9 S_laws_FnExactDualWord x = laws_FnExactDualWord x.1 := by kernel_rfl
theorem fn_laws_FnExactDualWord : FnOk Try.prog 9 := ⟨_, Try.func9, by kernel_rfl, by kernel_rfl⟩
theorem good_laws_FnExactDualWord : Gx.Good Try.prog 9 S_laws_FnExactDualWord := good_of_run Try.func9 (of_decide_eq_true (by kernel_rfl)) fun x r h => ⟨A_laws_FnExactDualWord, big, mkCfg_ok tabOk, mkCfg_sigs (show SigsOk Try.prog [(18, S_laws_toIntS), (34, S_spec_DualWord), (35, S_impl_DualWord), (20, S_laws_eqIntS), (30, S_laws_markIntS), (31, S_laws_heldIntS)] from ⟨⟨fn_laws_toIntS, good_laws_toIntS⟩, ⟨fn_spec_DualWord, good_spec_DualWord⟩, ⟨fn_impl_DualWord, good_impl_DualWord⟩, ⟨fn_laws_eqIntS, good_laws_eqIntS⟩, ⟨fn_laws_markIntS, good_laws_markIntS⟩, ⟨fn_laws_heldIntS, good_laws_heldIntS⟩, trivial⟩), (run_laws_FnExactDualWord big x).trans h⟩

/-! spec_SubstituteWord -/
def spec_SubstituteWord_b5 (rec : (List Int) → Int → (List Int) → (List Int) → Int → Option (((List Int) × (Bool × Unit)) × Unit)) (k : (List Int) → Option (((List Int) × (Bool × Unit)) × Unit)) (w0 : (List Int)) (letter1 : Int) (s2 : (List Int)) (out8 : (List Int)) (i9 : Int) : Option (((List Int) × (Bool × Unit)) × Unit) :=
  cond (decide (i9 < (w0.length : Int)))
  ((atI w0 i9).bind fun xq3 =>
  cond (decide (xq3 = letter1))
  ((appI out8 s2).bind fun xq4 =>
  rec w0 letter1 s2 xq4 (IntKind.i64.wrap (i9 + (1 : Int))))
  ((atI w0 i9).bind fun xq5 =>
  (appI out8 [xq5]).bind fun xq6 =>
  rec w0 letter1 s2 xq6 (IntKind.i64.wrap (i9 + (1 : Int)))))
  (k out8)
def spec_SubstituteWord_a5 (out8 : (List Int)) : Option (((List Int) × (Bool × Unit)) × Unit) :=
  (spec_l28Give out8).bind fun rq7 =>
  some ((rq7.1.1, rq7.1.2.1, ()), (()))
def spec_SubstituteWord_s (L5 : (List Int) → Int → (List Int) → (List Int) → Int → Option (((List Int) × (Bool × Unit)) × Unit)) (w_0 : (List Int)) (letter_1 : Int) (s_2 : (List Int)) : Option (((List Int) × (Bool × Unit)) × Unit) :=
  (spec_l28Two w_0 s_2).bind fun rq1 =>
  cond (!rq1.1)
  (some (([], false, ()), (())))
  ((spec_l1In letter_1 (0 : Int) (4 : Int)).bind fun rq2 =>
  cond (!rq2.1)
  (some (([], false, ()), (())))
  (L5 w_0 letter_1 s_2 [] (0 : Int)))
def spec_SubstituteWord_l5 (N : Nat) (k : (List Int) → Option (((List Int) × (Bool × Unit)) × Unit)) : Nat → (List Int) → Int → (List Int) → (List Int) → Int → Option (((List Int) × (Bool × Unit)) × Unit)
  | 0, _, _, _, _, _ => none
  | m + 1, w0, letter1, s2, out8, i9 => spec_SubstituteWord_b5 (spec_SubstituteWord_l5 N k m) k w0 letter1 s2 out8 i9
def spec_SubstituteWord_F5 (N : Nat) (w0 : (List Int)) (letter1 : Int) (s2 : (List Int)) (out8 : (List Int)) (i9 : Int) : Option (((List Int) × (Bool × Unit)) × Unit) := spec_SubstituteWord_l5 N (spec_SubstituteWord_a5) N w0 letter1 s2 out8 i9
def spec_SubstituteWord (N : Nat) (w_0 : (List Int)) (letter_1 : Int) (s_2 : (List Int)) : Option (((List Int) × (Bool × Unit)) × Unit) := spec_SubstituteWord_s (spec_SubstituteWord_F5 N) w_0 letter_1 s_2
def S_spec_SubstituteWord : Sig := { a := (.pair (.sl I) (.pair I (.pair (.sl I) .unit))), md := [0, 0, 0], mf := [], m := .unit, r := (.tup (.pair (.sl I) (.pair .bool .unit))), rf := .i, f := fun x => spec_SubstituteWord big x.1 x.2.1 x.2.2.1 }
def A_spec_SubstituteWord : Cfg := mkCfg tab [(55, S_spec_l28Two), (46, S_spec_l1In), (56, S_spec_l28Give)] [(10, [.as (.sl I) .i, .as I .i, .as (.sl I) .i, .drop, .drop, .drop, .drop, .drop, .as (.sl I) (.o .i), .as I .i]), (21, [.drop, .drop, .drop, .drop, .drop, .drop, .drop, .drop, .as (.sl I) (.o .i)])]
def spec_SubstituteWord_R5 (cd : Code) (N n : Nat) (K : Ex → St → Option (((List Int) × (Bool × Unit)) × Unit)) (w0 : (List Int)) (letter1 : Int) (s2 : (List Int)) (out8 : (List Int)) (i9 : Int) : Option (((List Int) × (Bool × Unit)) × Unit) := iter ((A_spec_SubstituteWord).shape 10) (run (A_spec_SubstituteWord) N cd) n ([.val (.sl I) .i w0, .val I .i letter1, .val (.sl I) .i s2, .u, .u, .u, .u, .u, .val (.sl I) (.o .i) out8, .val I .i i9] ++ List.replicate 37 .u) K
theorem spec_SubstituteWord_step5 (N : Nat) (m : Nat) (kX : St → Option (((List Int) × (Bool × Unit)) × Unit)) (kO : Nat → St → Option (((List Int) × (Bool × Unit)) × Unit)) (w0 : (List Int)) (letter1 : Int) (s2 : (List Int)) (out8 : (List Int)) (i9 : Int) : spec_SubstituteWord_R5 (codeAt Try.f36 [1, 1, 1, 0, 1, 0, 0]) N (m + 1) (exK (finish (A_spec_SubstituteWord) S_spec_SubstituteWord Try.f36.results.toList) 0 ((A_spec_SubstituteWord).shape 21) kX kO) w0 letter1 s2 out8 i9 = spec_SubstituteWord_b5 (spec_SubstituteWord_R5 (codeAt Try.f36 [1, 1, 1, 0, 1, 0, 0]) N m (exK (finish (A_spec_SubstituteWord) S_spec_SubstituteWord Try.f36.results.toList) 0 ((A_spec_SubstituteWord).shape 21) kX kO)) (fun (out8 : (List Int)) => kX ([.u, .u, .u, .u, .u, .u, .u, .u, .val (.sl I) (.o .i) out8] ++ List.replicate 38 .u)) w0 letter1 s2 out8 i9 := by kernel_rfl
theorem spec_SubstituteWord_iter5 (N : Nat) (kX : St → Option (((List Int) × (Bool × Unit)) × Unit)) (kO : Nat → St → Option (((List Int) × (Bool × Unit)) × Unit)) : ∀ (n : Nat) (w0 : (List Int)) (letter1 : Int) (s2 : (List Int)) (out8 : (List Int)) (i9 : Int), spec_SubstituteWord_R5 (codeAt Try.f36 [1, 1, 1, 0, 1, 0, 0]) N n (exK (finish (A_spec_SubstituteWord) S_spec_SubstituteWord Try.f36.results.toList) 0 ((A_spec_SubstituteWord).shape 21) kX kO) w0 letter1 s2 out8 i9 = spec_SubstituteWord_l5 N (fun (out8 : (List Int)) => kX ([.u, .u, .u, .u, .u, .u, .u, .u, .val (.sl I) (.o .i) out8] ++ List.replicate 38 .u)) n w0 letter1 s2 out8 i9
  | 0, _, _, _, _, _ => rfl
  | m + 1, w0, letter1, s2, out8, i9 => by
    have hrec : spec_SubstituteWord_R5 (codeAt Try.f36 [1, 1, 1, 0, 1, 0, 0]) N m (exK (finish (A_spec_SubstituteWord) S_spec_SubstituteWord Try.f36.results.toList) 0 ((A_spec_SubstituteWord).shape 21) kX kO) = (spec_SubstituteWord_l5 N (fun (out8 : (List Int)) => kX ([.u, .u, .u, .u, .u, .u, .u, .u, .val (.sl I) (.o .i) out8] ++ List.replicate 38 .u)) m) := (funext fun w0 => (funext fun letter1 => (funext fun s2 => (funext fun out8 => (funext fun i9 => spec_SubstituteWord_iter5 N kX kO m w0 letter1 s2 out8 i9)))))
    refine (spec_SubstituteWord_step5 N m kX kO w0 letter1 s2 out8 i9).trans ?_
    rw [hrec]
    rfl
theorem spec_SubstituteWord_after5 (N : Nat) (out8 : (List Int)) : (fun st' => run (A_spec_SubstituteWord) N (codeAt Try.f36 [1, 1, 1, 1]) st' (finish (A_spec_SubstituteWord) S_spec_SubstituteWord Try.f36.results.toList)) ([.u, .u, .u, .u, .u, .u, .u, .u, .val (.sl I) (.o .i) out8] ++ List.replicate 38 .u) = spec_SubstituteWord_a5 out8 := by kernel_rfl
theorem spec_SubstituteWord_in5 (N : Nat) (w0 : (List Int)) (letter1 : Int) (s2 : (List Int)) (out8 : (List Int)) (i9 : Int) : spec_SubstituteWord_R5 (codeAt Try.f36 [1, 1, 1, 0, 1, 0, 0]) N N (blockK 0 (seqK ((A_spec_SubstituteWord).shape 21) (run (A_spec_SubstituteWord) N (codeAt Try.f36 [1, 1, 1, 1])) (finish (A_spec_SubstituteWord) S_spec_SubstituteWord Try.f36.results.toList))) w0 letter1 s2 out8 i9 = spec_SubstituteWord_F5 N w0 letter1 s2 out8 i9 :=
  have h : (fun (out8 : (List Int)) => (fun st' => run (A_spec_SubstituteWord) N (codeAt Try.f36 [1, 1, 1, 1]) st' (finish (A_spec_SubstituteWord) S_spec_SubstituteWord Try.f36.results.toList)) ([.u, .u, .u, .u, .u, .u, .u, .u, .val (.sl I) (.o .i) out8] ++ List.replicate 38 .u)) = (spec_SubstituteWord_a5) := (funext fun out8 => spec_SubstituteWord_after5 N out8)
  have e : spec_SubstituteWord_R5 (codeAt Try.f36 [1, 1, 1, 0, 1, 0, 0]) N N (blockK 0 (seqK ((A_spec_SubstituteWord).shape 21) (run (A_spec_SubstituteWord) N (codeAt Try.f36 [1, 1, 1, 1])) (finish (A_spec_SubstituteWord) S_spec_SubstituteWord Try.f36.results.toList))) w0 letter1 s2 out8 i9 = spec_SubstituteWord_R5 (codeAt Try.f36 [1, 1, 1, 0, 1, 0, 0]) N N (exK (finish (A_spec_SubstituteWord) S_spec_SubstituteWord Try.f36.results.toList) 0 ((A_spec_SubstituteWord).shape 21) (fun st' => run (A_spec_SubstituteWord) N (codeAt Try.f36 [1, 1, 1, 1]) st' (finish (A_spec_SubstituteWord) S_spec_SubstituteWord Try.f36.results.toList)) (fun j st => (blockK 0 (seqK ((A_spec_SubstituteWord).shape 21) (run (A_spec_SubstituteWord) N (codeAt Try.f36 [1, 1, 1, 1])) (finish (A_spec_SubstituteWord) S_spec_SubstituteWord Try.f36.results.toList))) (.exit j) st)) w0 letter1 s2 out8 i9 := iter_ex (fun st => by kernel_rfl) (fun st => by kernel_rfl)
  (e.trans (spec_SubstituteWord_iter5 N (fun st' => run (A_spec_SubstituteWord) N (codeAt Try.f36 [1, 1, 1, 1]) st' (finish (A_spec_SubstituteWord) S_spec_SubstituteWord Try.f36.results.toList)) (fun j st => (blockK 0 (seqK ((A_spec_SubstituteWord).shape 21) (run (A_spec_SubstituteWord) N (codeAt Try.f36 [1, 1, 1, 1])) (finish (A_spec_SubstituteWord) S_spec_SubstituteWord Try.f36.results.toList))) (.exit j) st) N w0 letter1 s2 out8 i9)).trans (congrArg (fun k => spec_SubstituteWord_l5 N k N w0 letter1 s2 out8 i9) h)
theorem run0_spec_SubstituteWord (N : Nat) (x : (S_spec_SubstituteWord).a.den) : runF (A_spec_SubstituteWord) N Try.f36 S_spec_SubstituteWord x = (spec_SubstituteWord_s (spec_SubstituteWord_R5 (codeAt Try.f36 [1, 1, 1, 0, 1, 0, 0]) N N (blockK 0 (seqK ((A_spec_SubstituteWord).shape 21) (run (A_spec_SubstituteWord) N (codeAt Try.f36 [1, 1, 1, 1])) (finish (A_spec_SubstituteWord) S_spec_SubstituteWord Try.f36.results.toList)))) x.1 x.2.1 x.2.2.1) := by kernel_rfl
theorem run_spec_SubstituteWord (N : Nat) (x : (S_spec_SubstituteWord).a.den) : runF (A_spec_SubstituteWord) N Try.f36 S_spec_SubstituteWord x = spec_SubstituteWord N x.1 x.2.1 x.2.2.1 := by
  refine (run0_spec_SubstituteWord N x).trans ?_
  rw [(funext fun w0 => (funext fun letter1 => (funext fun s2 => (funext fun out8 => (funext fun i9 => spec_SubstituteWord_in5 N w0 letter1 s2 out8 i9)))))]
  rfl
theorem fn_spec_SubstituteWord : FnOk Try.prog 36 := ⟨_, Try.func36, by kernel_rfl, by kernel_rfl⟩
theorem good_spec_SubstituteWord : Gx.Good Try.prog 36 S_spec_SubstituteWord := good_of_run Try.func36 (of_decide_eq_true (by kernel_rfl)) fun x r h => ⟨A_spec_SubstituteWord, big, mkCfg_ok tabOk, mkCfg_sigs (show SigsOk Try.prog [(55, S_spec_l28Two), (46, S_spec_l1In), (56, S_spec_l28Give)] from ⟨⟨fn_spec_l28Two, good_spec_l28Two⟩, ⟨fn_spec_l1In, good_spec_l1In⟩, ⟨fn_spec_l28Give, good_spec_l28Give⟩, trivial⟩), (run_spec_SubstituteWord big x).trans h⟩

/-! impl_SubstituteWord -/
def impl_SubstituteWord_b5 (rec : Int → (List Int) → (List Int) → (List Int) → Int → Int → Option (((List Int) × (Bool × Unit)) × Unit)) (k : (List Int) → Option (((List Int) × (Bool × Unit)) × Unit)) (letter1 : Int) (s2 : (List Int)) (list8 : (List Int)) (t25 : (List Int)) (t26 : Int) (t27 : Int) : Option (((List Int) × (Bool × Unit)) × Unit) :=
  cond (decide (t27 < t26))
  ((atI t25 t27).bind fun xq2 =>
  cond (decide (xq2 = letter1))
  ((appI list8 s2).bind fun xq3 =>
  rec letter1 s2 xq3 t25 t26 (IntKind.i64.wrap (t27 + (1 : Int))))
  ((appI list8 [xq2]).bind fun xq4 =>
  rec letter1 s2 xq4 t25 t26 (IntKind.i64.wrap (t27 + (1 : Int)))))
  (k list8)
def impl_SubstituteWord_a5 (list8 : (List Int)) : Option (((List Int) × (Bool × Unit)) × Unit) :=
  cond (decide ((40 : Int) < (list8.length : Int)))
  (some (([], false, ()), (())))
  (some ((list8, true, ()), (())))
def impl_SubstituteWord_s (L5 : Int → (List Int) → (List Int) → (List Int) → Int → Int → Option (((List Int) × (Bool × Unit)) × Unit)) (w_0 : (List Int)) (letter_1 : Int) (s_2 : (List Int)) : Option (((List Int) × (Bool × Unit)) × Unit) :=
  (impl_areWords w_0 s_2).bind fun rq1 =>
  cond (!rq1.1)
  (some (([], false, ()), (())))
  (cond (decide (letter_1 < (0 : Int)))
  (some (([], false, ()), (())))
  (cond (decide ((5 : Int) ≤ letter_1))
  (some (([], false, ()), (())))
  (L5 letter_1 s_2 [] w_0 (w_0.length : Int) (0 : Int))))
def impl_SubstituteWord_l5 (N : Nat) (k : (List Int) → Option (((List Int) × (Bool × Unit)) × Unit)) : Nat → Int → (List Int) → (List Int) → (List Int) → Int → Int → Option (((List Int) × (Bool × Unit)) × Unit)
  | 0, _, _, _, _, _, _ => none
  | m + 1, letter1, s2, list8, t25, t26, t27 => impl_SubstituteWord_b5 (impl_SubstituteWord_l5 N k m) k letter1 s2 list8 t25 t26 t27
def impl_SubstituteWord_F5 (N : Nat) (letter1 : Int) (s2 : (List Int)) (list8 : (List Int)) (t25 : (List Int)) (t26 : Int) (t27 : Int) : Option (((List Int) × (Bool × Unit)) × Unit) := impl_SubstituteWord_l5 N (impl_SubstituteWord_a5) N letter1 s2 list8 t25 t26 t27
def impl_SubstituteWord (N : Nat) (w_0 : (List Int)) (letter_1 : Int) (s_2 : (List Int)) : Option (((List Int) × (Bool × Unit)) × Unit) := impl_SubstituteWord_s (impl_SubstituteWord_F5 N) w_0 letter_1 s_2
def S_impl_SubstituteWord : Sig := { a := (.pair (.sl I) (.pair I (.pair (.sl I) .unit))), md := [0, 0, 0], mf := [], m := .unit, r := (.tup (.pair (.sl I) (.pair .bool .unit))), rf := (.p (.o .i) .i), f := fun x => impl_SubstituteWord big x.1 x.2.1 x.2.2.1 }
def A_impl_SubstituteWord : Cfg := mkCfg tab [(61, S_impl_areWords)] [(10, [.drop, .as I .i, .as (.sl I) .i, .drop, .drop, .drop, .drop, .drop, .as (.sl I) (.o .i), .drop, .drop, .drop, .drop, .drop, .drop, .drop, .drop, .drop, .drop, .drop, .drop, .drop, .drop, .drop, .drop, .as (.sl I) .i, .as I .i, .as I .i]), (23, [.drop, .drop, .drop, .drop, .drop, .drop, .drop, .drop, .as (.sl I) (.o .i)])]
def impl_SubstituteWord_R5 (cd : Code) (N n : Nat) (K : Ex → St → Option (((List Int) × (Bool × Unit)) × Unit)) (letter1 : Int) (s2 : (List Int)) (list8 : (List Int)) (t25 : (List Int)) (t26 : Int) (t27 : Int) : Option (((List Int) × (Bool × Unit)) × Unit) := iter ((A_impl_SubstituteWord).shape 10) (run (A_impl_SubstituteWord) N cd) n ([.u, .val I .i letter1, .val (.sl I) .i s2, .u, .u, .u, .u, .u, .val (.sl I) (.o .i) list8, .u, .u, .u, .u, .u, .u, .u, .u, .u, .u, .u, .u, .u, .u, .u, .u, .val (.sl I) .i t25, .val I .i t26, .val I .i t27] ++ List.replicate 19 .u) K
theorem impl_SubstituteWord_step5 (N : Nat) (m : Nat) (kX : St → Option (((List Int) × (Bool × Unit)) × Unit)) (kO : Nat → St → Option (((List Int) × (Bool × Unit)) × Unit)) (letter1 : Int) (s2 : (List Int)) (list8 : (List Int)) (t25 : (List Int)) (t26 : Int) (t27 : Int) : impl_SubstituteWord_R5 (codeAt Try.f37 [1, 1, 1, 0, 1, 0, 0]) N (m + 1) (exK (finish (A_impl_SubstituteWord) S_impl_SubstituteWord Try.f37.results.toList) 0 ((A_impl_SubstituteWord).shape 23) kX kO) letter1 s2 list8 t25 t26 t27 = impl_SubstituteWord_b5 (impl_SubstituteWord_R5 (codeAt Try.f37 [1, 1, 1, 0, 1, 0, 0]) N m (exK (finish (A_impl_SubstituteWord) S_impl_SubstituteWord Try.f37.results.toList) 0 ((A_impl_SubstituteWord).shape 23) kX kO)) (fun (list8 : (List Int)) => kX ([.u, .u, .u, .u, .u, .u, .u, .u, .val (.sl I) (.o .i) list8] ++ List.replicate 38 .u)) letter1 s2 list8 t25 t26 t27 := by kernel_rfl
theorem impl_SubstituteWord_iter5 (N : Nat) (kX : St → Option (((List Int) × (Bool × Unit)) × Unit)) (kO : Nat → St → Option (((List Int) × (Bool × Unit)) × Unit)) : ∀ (n : Nat) (letter1 : Int) (s2 : (List Int)) (list8 : (List Int)) (t25 : (List Int)) (t26 : Int) (t27 : Int), impl_SubstituteWord_R5 (codeAt Try.f37 [1, 1, 1, 0, 1, 0, 0]) N n (exK (finish (A_impl_SubstituteWord) S_impl_SubstituteWord Try.f37.results.toList) 0 ((A_impl_SubstituteWord).shape 23) kX kO) letter1 s2 list8 t25 t26 t27 = impl_SubstituteWord_l5 N (fun (list8 : (List Int)) => kX ([.u, .u, .u, .u, .u, .u, .u, .u, .val (.sl I) (.o .i) list8] ++ List.replicate 38 .u)) n letter1 s2 list8 t25 t26 t27
  | 0, _, _, _, _, _, _ => rfl
  | m + 1, letter1, s2, list8, t25, t26, t27 => by
    have hrec : impl_SubstituteWord_R5 (codeAt Try.f37 [1, 1, 1, 0, 1, 0, 0]) N m (exK (finish (A_impl_SubstituteWord) S_impl_SubstituteWord Try.f37.results.toList) 0 ((A_impl_SubstituteWord).shape 23) kX kO) = (impl_SubstituteWord_l5 N (fun (list8 : (List Int)) => kX ([.u, .u, .u, .u, .u, .u, .u, .u, .val (.sl I) (.o .i) list8] ++ List.replicate 38 .u)) m) := (funext fun letter1 => (funext fun s2 => (funext fun list8 => (funext fun t25 => (funext fun t26 => (funext fun t27 => impl_SubstituteWord_iter5 N kX kO m letter1 s2 list8 t25 t26 t27))))))
    refine (impl_SubstituteWord_step5 N m kX kO letter1 s2 list8 t25 t26 t27).trans ?_
    rw [hrec]
    rfl
theorem impl_SubstituteWord_after5 (N : Nat) (list8 : (List Int)) : (fun st' => run (A_impl_SubstituteWord) N (codeAt Try.f37 [1, 1, 1, 1]) st' (finish (A_impl_SubstituteWord) S_impl_SubstituteWord Try.f37.results.toList)) ([.u, .u, .u, .u, .u, .u, .u, .u, .val (.sl I) (.o .i) list8] ++ List.replicate 38 .u) = impl_SubstituteWord_a5 list8 := by kernel_rfl
theorem impl_SubstituteWord_in5 (N : Nat) (letter1 : Int) (s2 : (List Int)) (list8 : (List Int)) (t25 : (List Int)) (t26 : Int) (t27 : Int) : impl_SubstituteWord_R5 (codeAt Try.f37 [1, 1, 1, 0, 1, 0, 0]) N N (blockK 0 (seqK ((A_impl_SubstituteWord).shape 23) (run (A_impl_SubstituteWord) N (codeAt Try.f37 [1, 1, 1, 1])) (finish (A_impl_SubstituteWord) S_impl_SubstituteWord Try.f37.results.toList))) letter1 s2 list8 t25 t26 t27 = impl_SubstituteWord_F5 N letter1 s2 list8 t25 t26 t27 :=
  have h : (fun (list8 : (List Int)) => (fun st' => run (A_impl_SubstituteWord) N (codeAt Try.f37 [1, 1, 1, 1]) st' (finish (A_impl_SubstituteWord) S_impl_SubstituteWord Try.f37.results.toList)) ([.u, .u, .u, .u, .u, .u, .u, .u, .val (.sl I) (.o .i) list8] ++ List.replicate 38 .u)) = (impl_SubstituteWord_a5) := (funext fun list8 => impl_SubstituteWord_after5 N list8)
  have e : impl_SubstituteWord_R5 (codeAt Try.f37 [1, 1, 1, 0, 1, 0, 0]) N N (blockK 0 (seqK ((A_impl_SubstituteWord).shape 23) (run (A_impl_SubstituteWord) N (codeAt Try.f37 [1, 1, 1, 1])) (finish (A_impl_SubstituteWord) S_impl_SubstituteWord Try.f37.results.toList))) letter1 s2 list8 t25 t26 t27 = impl_SubstituteWord_R5 (codeAt Try.f37 [1, 1, 1, 0, 1, 0, 0]) N N (exK (finish (A_impl_SubstituteWord) S_impl_SubstituteWord Try.f37.results.toList) 0 ((A_impl_SubstituteWord).shape 23) (fun st' => run (A_impl_SubstituteWord) N (codeAt Try.f37 [1, 1, 1, 1]) st' (finish (A_impl_SubstituteWord) S_impl_SubstituteWord Try.f37.results.toList)) (fun j st => (blockK 0 (seqK ((A_impl_SubstituteWord).shape 23) (run (A_impl_SubstituteWord) N (codeAt Try.f37 [1, 1, 1, 1])) (finish (A_impl_SubstituteWord) S_impl_SubstituteWord Try.f37.results.toList))) (.exit j) st)) letter1 s2 list8 t25 t26 t27 := iter_ex (fun st => by kernel_rfl) (fun st => by kernel_rfl)
  (e.trans (impl_SubstituteWord_iter5 N (fun st' => run (A_impl_SubstituteWord) N (codeAt Try.f37 [1, 1, 1, 1]) st' (finish (A_impl_SubstituteWord) S_impl_SubstituteWord Try.f37.results.toList)) (fun j st => (blockK 0 (seqK ((A_impl_SubstituteWord).shape 23) (run (A_impl_SubstituteWord) N (codeAt Try.f37 [1, 1, 1, 1])) (finish (A_impl_SubstituteWord) S_impl_SubstituteWord Try.f37.results.toList))) (.exit j) st) N letter1 s2 list8 t25 t26 t27)).trans (congrArg (fun k => impl_SubstituteWord_l5 N k N letter1 s2 list8 t25 t26 t27) h)
theorem run0_impl_SubstituteWord (N : Nat) (x : (S_impl_SubstituteWord).a.den) : runF (A_impl_SubstituteWord) N Try.f37 S_impl_SubstituteWord x = (impl_SubstituteWord_s (impl_SubstituteWord_R5 (codeAt Try.f37 [1, 1, 1, 0, 1, 0, 0]) N N (blockK 0 (seqK ((A_impl_SubstituteWord).shape 23) (run (A_impl_SubstituteWord) N (codeAt Try.f37 [1, 1, 1, 1])) (finish (A_impl_SubstituteWord) S_impl_SubstituteWord Try.f37.results.toList)))) x.1 x.2.1 x.2.2.1) := by kernel_rfl
theorem run_impl_SubstituteWord (N : Nat) (x : (S_impl_SubstituteWord).a.den) : runF (A_impl_SubstituteWord) N Try.f37 S_impl_SubstituteWord x = impl_SubstituteWord N x.1 x.2.1 x.2.2.1 := by
  refine (run0_impl_SubstituteWord N x).trans ?_
  rw [(funext fun letter1 => (funext fun s2 => (funext fun list8 => (funext fun t25 => (funext fun t26 => (funext fun t27 => impl_SubstituteWord_in5 N letter1 s2 list8 t25 t26 t27))))))]
  rfl
theorem fn_impl_SubstituteWord : FnOk Try.prog 37 := ⟨_, Try.func37, by kernel_rfl, by kernel_rfl⟩
theorem good_impl_SubstituteWord : Gx.Good Try.prog 37 S_impl_SubstituteWord := good_of_run Try.func37 (of_decide_eq_true (by kernel_rfl)) fun x r h => ⟨A_impl_SubstituteWord, big, mkCfg_ok tabOk, mkCfg_sigs (show SigsOk Try.prog [(61, S_impl_areWords)] from ⟨⟨fn_impl_areWords, good_impl_areWords⟩, trivial⟩), (run_impl_SubstituteWord big x).trans h⟩

/-! laws_FnExactSubstituteWord -/
def laws_FnExactSubstituteWord_s (aW_0 : (List Int)) (aLetter_1 : Int) (aS_2 : (List Int)) : Option (Bool × Unit) :=
  cond (decide ((1048576 : Int) < (aW_0.length : Int)))
  (some (true, (())))
  (cond (decide ((1048576 : Int) < (aS_2.length : Int)))
  (some (true, (())))
  ((laws_toIntS big aW_0).bind fun rq1 =>
  (laws_toIntS big aS_2).bind fun rq2 =>
  (spec_SubstituteWord big rq1.1 aLetter_1 rq2.1).bind fun rq3 =>
  (laws_toIntS big aW_0).bind fun rq4 =>
  (laws_toIntS big aS_2).bind fun rq5 =>
  (impl_SubstituteWord big rq4.1 aLetter_1 rq5.1).bind fun rq6 =>
  (laws_eqIntS big rq6.1.1 rq3.1.1).bind fun rq7 =>
  cond (!rq7.1)
  (some (false, (())))
  (cond (((((), rq6.1.2).2).1) != rq3.1.2.1)
  (some (false, (())))
  ((laws_toIntS big aW_0).bind fun rq8 =>
  (laws_eqIntS big rq4.1 rq8.1).bind fun rq9 =>
  cond (!rq9.1)
  (some (false, (())))
  ((laws_toIntS big aS_2).bind fun rq10 =>
  (laws_eqIntS big rq5.1 rq10.1).bind fun rq11 =>
  cond (!rq11.1)
  (some (false, (())))
  ((laws_markIntS big rq4.1 (1 : Int)).bind fun rq12 =>
  (laws_markIntS big rq5.1 rq12.1).bind fun rq13 =>
  cond (decide (rq13.1 < (0 : Int)))
  (some (false, (())))
  ((laws_eqIntS big rq6.1.1 rq3.1.1).bind fun rq14 =>
  cond (!rq14.1)
  (some (false, (())))
  (cond (((((), rq6.1.2).2).1) != rq3.1.2.1)
  (some (false, (())))
  ((laws_markIntS big rq6.1.1 (1 : Int)).bind fun rq15 =>
  (laws_heldIntS big rq15.2.1 (1 : Int)).bind fun rq16 =>
  cond (decide (rq16.1 < (0 : Int)))
  (some (false, (())))
  (cond (decide (rq16.1 ≠ rq15.1))
  (some (false, (())))
  ((laws_toIntS big aW_0).bind fun rq17 =>
  (laws_toIntS big aS_2).bind fun rq18 =>
  (impl_SubstituteWord big rq17.1 aLetter_1 rq18.1).bind fun rq19 =>
  (laws_eqIntS big rq19.1.1 rq3.1.1).bind fun rq20 =>
  cond (!rq20.1)
  (some (false, (())))
  (cond (((((), rq19.1.2).2).1) != rq3.1.2.1)
  (some (false, (())))
  ((laws_heldIntS big rq15.2.1 (1 : Int)).bind fun rq21 =>
  cond (decide (rq21.1 < (0 : Int)))
  (some (false, (())))
  (cond (decide (rq21.1 ≠ rq15.1))
  (some (false, (())))
  (some (true, (())))))))))))))))))
def laws_FnExactSubstituteWord (aW_0 : (List Int)) (aLetter_1 : Int) (aS_2 : (List Int)) : Option (Bool × Unit) := laws_FnExactSubstituteWord_s aW_0 aLetter_1 aS_2
def S_laws_FnExactSubstituteWord : Sig := { a := (.pair (.sl I) (.pair I (.pair (.sl I) .unit))), md := [0, 0, 0], mf := [], m := .unit, r := .bool, rf := .i, f := fun x => laws_FnExactSubstituteWord x.1 x.2.1 x.2.2.1 }
def A_laws_FnExactSubstituteWord : Cfg := mkCfg tab [(18, S_laws_toIntS), (36, S_spec_SubstituteWord), (37, S_impl_SubstituteWord), (20, S_laws_eqIntS), (30, S_laws_markIntS), (31, S_laws_heldIntS)] []
theorem run_laws_FnExactSubstituteWord (N : Nat) (x : (S_laws_FnExactSubstituteWord).a.den) : runF (A_laws_FnExactSubstituteWord) N Try.f10 S_laws_FnExactSubstituteWord x = laws_FnExactSubstituteWord x.1 x.2.1 x.2.2.1 := by kernel_rfl
theorem fn_laws_FnExactSubstituteWord : FnOk Try.prog 10 := ⟨_, Try.func10, by kernel_rfl, by kernel_rfl⟩
theorem good_laws_FnExactSubstituteWord : Gx.Good Try.prog 10 S_laws_FnExactSubstituteWord := good_of_run Try.func10 (of_decide_eq_true (by kernel_rfl)) fun x r h => ⟨A_laws_FnExactSubstituteWord, big, mkCfg_ok tabOk, mkCfg_sigs (show SigsOk Try.prog [(18, S_laws_toIntS), (36, S_spec_SubstituteWord), (37, S_impl_SubstituteWord), (20, S_laws_eqIntS), (30, S_laws_markIntS), (31, S_laws_heldIntS)] from ⟨⟨fn_laws_toIntS, good_laws_toIntS⟩, ⟨fn_spec_SubstituteWord, good_spec_SubstituteWord⟩, ⟨fn_impl_SubstituteWord, good_impl_SubstituteWord⟩, ⟨fn_laws_eqIntS, good_laws_eqIntS⟩, ⟨fn_laws_markIntS, good_laws_markIntS⟩, ⟨fn_laws_heldIntS, good_laws_heldIntS⟩, trivial⟩), (run_laws_FnExactSubstituteWord big x).trans h⟩

/-! spec_l1Put -/
def spec_l1Put_b2 (rec : (List Int) → Int → Int → Option ((List Int) × Unit)) (k : (List Int) → Int → Int → Option ((List Int) × Unit)) (l0 : (List Int)) (n1 : Int) (k5 : Int) : Option ((List Int) × Unit) :=
  cond (decide (k5 < (l0.length : Int)))
  ((atI l0 k5).bind fun xq1 =>
  cond (decide (xq1 < n1))
  (rec l0 n1 (IntKind.i64.wrap (k5 + (1 : Int))))
  (k l0 n1 k5))
  (k l0 n1 k5)
def spec_l1Put_a2 (l0 : (List Int)) (n1 : Int) (k5 : Int) : Option ((List Int) × Unit) :=
  cond (decide (k5 < (l0.length : Int)))
  ((atI l0 k5).bind fun xq2 =>
  cond (decide (xq2 = n1))
  (some (l0, (())))
  ((slI l0 0 k5).bind fun xq3 =>
  (appI [] xq3).bind fun xq4 =>
  (appI xq4 [n1]).bind fun xq5 =>
  (slI l0 k5 l0.length).bind fun xq6 =>
  (appI xq5 xq6).bind fun xq7 =>
  some (xq7, (()))))
  ((slI l0 0 k5).bind fun xq8 =>
  (appI [] xq8).bind fun xq9 =>
  (appI xq9 [n1]).bind fun xq10 =>
  (slI l0 k5 l0.length).bind fun xq11 =>
  (appI xq10 xq11).bind fun xq12 =>
  some (xq12, (())))
def spec_l1Put_s (L2 : (List Int) → Int → Int → Option ((List Int) × Unit)) (l_0 : (List Int)) (n_1 : Int) : Option ((List Int) × Unit) :=
  L2 l_0 n_1 (0 : Int)
def spec_l1Put_l2 (N : Nat) (k : (List Int) → Int → Int → Option ((List Int) × Unit)) : Nat → (List Int) → Int → Int → Option ((List Int) × Unit)
  | 0, _, _, _ => none
  | m + 1, l0, n1, k5 => spec_l1Put_b2 (spec_l1Put_l2 N k m) k l0 n1 k5
def spec_l1Put_F2 (N : Nat) (l0 : (List Int)) (n1 : Int) (k5 : Int) : Option ((List Int) × Unit) := spec_l1Put_l2 N (spec_l1Put_a2) N l0 n1 k5
def spec_l1Put (N : Nat) (l_0 : (List Int)) (n_1 : Int) : Option ((List Int) × Unit) := spec_l1Put_s (spec_l1Put_F2 N) l_0 n_1
def S_spec_l1Put : Sig := { a := (.pair (.sl I) (.pair I .unit)), md := [0, 0], mf := [], m := .unit, r := (.sl I), rf := .i, f := fun x => spec_l1Put big x.1 x.2.1 }
def A_spec_l1Put : Cfg := mkCfg tab [] [(4, [.as (.sl I) .i, .as I .i, .drop, .drop, .drop, .as I .i]), (9, [.as (.sl I) .i, .as I .i, .drop, .drop, .drop, .as I .i])]
def spec_l1Put_R2 (cd : Code) (N n : Nat) (K : Ex → St → Option ((List Int) × Unit)) (l0 : (List Int)) (n1 : Int) (k5 : Int) : Option ((List Int) × Unit) := iter ((A_spec_l1Put).shape 4) (run (A_spec_l1Put) N cd) n ([.val (.sl I) .i l0, .val I .i n1, .u, .u, .u, .val I .i k5] ++ List.replicate 39 .u) K
theorem spec_l1Put_step2 (N : Nat) (m : Nat) (kX : St → Option ((List Int) × Unit)) (kO : Nat → St → Option ((List Int) × Unit)) (l0 : (List Int)) (n1 : Int) (k5 : Int) : spec_l1Put_R2 (codeAt Try.f62 [1, 1, 0, 0, 0]) N (m + 1) (exK (finish (A_spec_l1Put) S_spec_l1Put Try.f62.results.toList) 0 ((A_spec_l1Put).shape 9) kX kO) l0 n1 k5 = spec_l1Put_b2 (spec_l1Put_R2 (codeAt Try.f62 [1, 1, 0, 0, 0]) N m (exK (finish (A_spec_l1Put) S_spec_l1Put Try.f62.results.toList) 0 ((A_spec_l1Put).shape 9) kX kO)) (fun (l0 : (List Int)) (n1 : Int) (k5 : Int) => kX ([.val (.sl I) .i l0, .val I .i n1, .u, .u, .u, .val I .i k5] ++ List.replicate 39 .u)) l0 n1 k5 := by kernel_rfl
theorem spec_l1Put_iter2 (N : Nat) (kX : St → Option ((List Int) × Unit)) (kO : Nat → St → Option ((List Int) × Unit)) : ∀ (n : Nat) (l0 : (List Int)) (n1 : Int) (k5 : Int), spec_l1Put_R2 (codeAt Try.f62 [1, 1, 0, 0, 0]) N n (exK (finish (A_spec_l1Put) S_spec_l1Put Try.f62.results.toList) 0 ((A_spec_l1Put).shape 9) kX kO) l0 n1 k5 = spec_l1Put_l2 N (fun (l0 : (List Int)) (n1 : Int) (k5 : Int) => kX ([.val (.sl I) .i l0, .val I .i n1, .u, .u, .u, .val I .i k5] ++ List.replicate 39 .u)) n l0 n1 k5
  | 0, _, _, _ => rfl
  | m + 1, l0, n1, k5 => by
    have hrec : spec_l1Put_R2 (codeAt Try.f62 [1, 1, 0, 0, 0]) N m (exK (finish (A_spec_l1Put) S_spec_l1Put Try.f62.results.toList) 0 ((A_spec_l1Put).shape 9) kX kO) = (spec_l1Put_l2 N (fun (l0 : (List Int)) (n1 : Int) (k5 : Int) => kX ([.val (.sl I) .i l0, .val I .i n1, .u, .u, .u, .val I .i k5] ++ List.replicate 39 .u)) m) := (funext fun l0 => (funext fun n1 => (funext fun k5 => spec_l1Put_iter2 N kX kO m l0 n1 k5)))
    refine (spec_l1Put_step2 N m kX kO l0 n1 k5).trans ?_
    rw [hrec]
    rfl
theorem spec_l1Put_after2 (N : Nat) (l0 : (List Int)) (n1 : Int) (k5 : Int) : (fun st' => run (A_spec_l1Put) N (codeAt Try.f62 [1, 1, 1]) st' (finish (A_spec_l1Put) S_spec_l1Put Try.f62.results.toList)) ([.val (.sl I) .i l0, .val I .i n1, .u, .u, .u, .val I .i k5] ++ List.replicate 39 .u) = spec_l1Put_a2 l0 n1 k5 := by kernel_rfl
theorem spec_l1Put_in2 (N : Nat) (l0 : (List Int)) (n1 : Int) (k5 : Int) : spec_l1Put_R2 (codeAt Try.f62 [1, 1, 0, 0, 0]) N N (blockK 0 (seqK ((A_spec_l1Put).shape 9) (run (A_spec_l1Put) N (codeAt Try.f62 [1, 1, 1])) (finish (A_spec_l1Put) S_spec_l1Put Try.f62.results.toList))) l0 n1 k5 = spec_l1Put_F2 N l0 n1 k5 :=
  have h : (fun (l0 : (List Int)) (n1 : Int) (k5 : Int) => (fun st' => run (A_spec_l1Put) N (codeAt Try.f62 [1, 1, 1]) st' (finish (A_spec_l1Put) S_spec_l1Put Try.f62.results.toList)) ([.val (.sl I) .i l0, .val I .i n1, .u, .u, .u, .val I .i k5] ++ List.replicate 39 .u)) = (spec_l1Put_a2) := (funext fun l0 => (funext fun n1 => (funext fun k5 => spec_l1Put_after2 N l0 n1 k5)))
  have e : spec_l1Put_R2 (codeAt Try.f62 [1, 1, 0, 0, 0]) N N (blockK 0 (seqK ((A_spec_l1Put).shape 9) (run (A_spec_l1Put) N (codeAt Try.f62 [1, 1, 1])) (finish (A_spec_l1Put) S_spec_l1Put Try.f62.results.toList))) l0 n1 k5 = spec_l1Put_R2 (codeAt Try.f62 [1, 1, 0, 0, 0]) N N (exK (finish (A_spec_l1Put) S_spec_l1Put Try.f62.results.toList) 0 ((A_spec_l1Put).shape 9) (fun st' => run (A_spec_l1Put) N (codeAt Try.f62 [1, 1, 1]) st' (finish (A_spec_l1Put) S_spec_l1Put Try.f62.results.toList)) (fun j st => (blockK 0 (seqK ((A_spec_l1Put).shape 9) (run (A_spec_l1Put) N (codeAt Try.f62 [1, 1, 1])) (finish (A_spec_l1Put) S_spec_l1Put Try.f62.results.toList))) (.exit j) st)) l0 n1 k5 := iter_ex (fun st => by kernel_rfl) (fun st => by kernel_rfl)
  (e.trans (spec_l1Put_iter2 N (fun st' => run (A_spec_l1Put) N (codeAt Try.f62 [1, 1, 1]) st' (finish (A_spec_l1Put) S_spec_l1Put Try.f62.results.toList)) (fun j st => (blockK 0 (seqK ((A_spec_l1Put).shape 9) (run (A_spec_l1Put) N (codeAt Try.f62 [1, 1, 1])) (finish (A_spec_l1Put) S_spec_l1Put Try.f62.results.toList))) (.exit j) st) N l0 n1 k5)).trans (congrArg (fun k => spec_l1Put_l2 N k N l0 n1 k5) h)
theorem run0_spec_l1Put (N : Nat) (x : (S_spec_l1Put).a.den) : runF (A_spec_l1Put) N Try.f62 S_spec_l1Put x = (spec_l1Put_s (spec_l1Put_R2 (codeAt Try.f62 [1, 1, 0, 0, 0]) N N (blockK 0 (seqK ((A_spec_l1Put).shape 9) (run (A_spec_l1Put) N (codeAt Try.f62 [1, 1, 1])) (finish (A_spec_l1Put) S_spec_l1Put Try.f62.results.toList)))) x.1 x.2.1) := by kernel_rfl
theorem run_spec_l1Put (N : Nat) (x : (S_spec_l1Put).a.den) : runF (A_spec_l1Put) N Try.f62 S_spec_l1Put x = spec_l1Put N x.1 x.2.1 := by
  refine (run0_spec_l1Put N x).trans ?_
  rw [(funext fun l0 => (funext fun n1 => (funext fun k5 => spec_l1Put_in2 N l0 n1 k5)))]
  rfl
theorem fn_spec_l1Put : FnOk Try.prog 62 := ⟨_, Try.func62, by kernel_rfl, by kernel_rfl⟩
theorem good_spec_l1Put : Gx.Good Try.prog 62 S_spec_l1Put := good_of_run Try.func62 (of_decide_eq_true (by kernel_rfl)) fun x r h => ⟨A_spec_l1Put, big, mkCfg_ok tabOk, mkCfg_sigs (show SigsOk Try.prog [] from trivial), (run_spec_l1Put big x).trans h⟩

/-! spec_LettersOf -/
def spec_LettersOf_b5 (rec : (List Int) → (List Int) → Int → Option (((List Int) × (Bool × Unit)) × Unit)) (k : (List Int) → Option (((List Int) × (Bool × Unit)) × Unit)) (w0 : (List Int)) (out4 : (List Int)) (i5 : Int) : Option (((List Int) × (Bool × Unit)) × Unit) :=
  cond (decide (i5 < (w0.length : Int)))
  ((atI w0 i5).bind fun xq2 =>
  cond (decide ((0 : Int) ≤ xq2))
  ((atI w0 i5).bind fun xq3 =>
  (spec_l1Put big out4 xq3).bind fun rq4 =>
  rec w0 rq4.1 (IntKind.i64.wrap (i5 + (1 : Int))))
  (rec w0 out4 (IntKind.i64.wrap (i5 + (1 : Int)))))
  (k out4)
def spec_LettersOf_a5 (out4 : (List Int)) : Option (((List Int) × (Bool × Unit)) × Unit) :=
  some ((out4, true, ()), (()))
def spec_LettersOf_s (L5 : (List Int) → (List Int) → Int → Option (((List Int) × (Bool × Unit)) × Unit)) (w_0 : (List Int)) : Option (((List Int) × (Bool × Unit)) × Unit) :=
  (spec_l28Good w_0).bind fun rq1 =>
  cond (!rq1.1)
  (some (([], false, ()), (())))
  (L5 w_0 [] (0 : Int))
def spec_LettersOf_l5 (N : Nat) (k : (List Int) → Option (((List Int) × (Bool × Unit)) × Unit)) : Nat → (List Int) → (List Int) → Int → Option (((List Int) × (Bool × Unit)) × Unit)
  | 0, _, _, _ => none
  | m + 1, w0, out4, i5 => spec_LettersOf_b5 (spec_LettersOf_l5 N k m) k w0 out4 i5
def spec_LettersOf_F5 (N : Nat) (w0 : (List Int)) (out4 : (List Int)) (i5 : Int) : Option (((List Int) × (Bool × Unit)) × Unit) := spec_LettersOf_l5 N (spec_LettersOf_a5) N w0 out4 i5
def spec_LettersOf (N : Nat) (w_0 : (List Int)) : Option (((List Int) × (Bool × Unit)) × Unit) := spec_LettersOf_s (spec_LettersOf_F5 N) w_0
def S_spec_LettersOf : Sig := { a := (.pair (.sl I) .unit), md := [0], mf := [], m := .unit, r := (.tup (.pair (.sl I) (.pair .bool .unit))), rf := .i, f := fun x => spec_LettersOf big x.1 }
def A_spec_LettersOf : Cfg := mkCfg tab [(48, S_spec_l28Good), (62, S_spec_l1Put)] [(10, [.as (.sl I) .i, .drop, .drop, .drop, .as (.sl I) .i, .as I .i]), (19, [.drop, .drop, .drop, .drop, .as (.sl I) .i])]
def spec_LettersOf_R5 (cd : Code) (N n : Nat) (K : Ex → St → Option (((List Int) × (Bool × Unit)) × Unit)) (w0 : (List Int)) (out4 : (List Int)) (i5 : Int) : Option (((List Int) × (Bool × Unit)) × Unit) := iter ((A_spec_LettersOf).shape 10) (run (A_spec_LettersOf) N cd) n ([.val (.sl I) .i w0, .u, .u, .u, .val (.sl I) .i out4, .val I .i i5] ++ List.replicate 23 .u) K
theorem spec_LettersOf_step5 (N : Nat) (m : Nat) (kX : St → Option (((List Int) × (Bool × Unit)) × Unit)) (kO : Nat → St → Option (((List Int) × (Bool × Unit)) × Unit)) (w0 : (List Int)) (out4 : (List Int)) (i5 : Int) : spec_LettersOf_R5 (codeAt Try.f38 [1, 1, 1, 0, 1, 0, 0]) N (m + 1) (exK (finish (A_spec_LettersOf) S_spec_LettersOf Try.f38.results.toList) 0 ((A_spec_LettersOf).shape 19) kX kO) w0 out4 i5 = spec_LettersOf_b5 (spec_LettersOf_R5 (codeAt Try.f38 [1, 1, 1, 0, 1, 0, 0]) N m (exK (finish (A_spec_LettersOf) S_spec_LettersOf Try.f38.results.toList) 0 ((A_spec_LettersOf).shape 19) kX kO)) (fun (out4 : (List Int)) => kX ([.u, .u, .u, .u, .val (.sl I) .i out4] ++ List.replicate 24 .u)) w0 out4 i5 := by kernel_rfl
theorem spec_LettersOf_iter5 (N : Nat) (kX : St → Option (((List Int) × (Bool × Unit)) × Unit)) (kO : Nat → St → Option (((List Int) × (Bool × Unit)) × Unit)) : ∀ (n : Nat) (w0 : (List Int)) (out4 : (List Int)) (i5 : Int), spec_LettersOf_R5 (codeAt Try.f38 [1, 1, 1, 0, 1, 0, 0]) N n (exK (finish (A_spec_LettersOf) S_spec_LettersOf Try.f38.results.toList) 0 ((A_spec_LettersOf).shape 19) kX kO) w0 out4 i5 = spec_LettersOf_l5 N (fun (out4 : (List Int)) => kX ([.u, .u, .u, .u, .val (.sl I) .i out4] ++ List.replicate 24 .u)) n w0 out4 i5
  | 0, _, _, _ => rfl
  | m + 1, w0, out4, i5 => by
    have hrec : spec_LettersOf_R5 (codeAt Try.f38 [1, 1, 1, 0, 1, 0, 0]) N m (exK (finish (A_spec_LettersOf) S_spec_LettersOf Try.f38.results.toList) 0 ((A_spec_LettersOf).shape 19) kX kO) = (spec_LettersOf_l5 N (fun (out4 : (List Int)) => kX ([.u, .u, .u, .u, .val (.sl I) .i out4] ++ List.replicate 24 .u)) m) := (funext fun w0 => (funext fun out4 => (funext fun i5 => spec_LettersOf_iter5 N kX kO m w0 out4 i5)))
    refine (spec_LettersOf_step5 N m kX kO w0 out4 i5).trans ?_
    rw [hrec]
    rfl
theorem spec_LettersOf_after5 (N : Nat) (out4 : (List Int)) : (fun st' => run (A_spec_LettersOf) N (codeAt Try.f38 [1, 1, 1, 1]) st' (finish (A_spec_LettersOf) S_spec_LettersOf Try.f38.results.toList)) ([.u, .u, .u, .u, .val (.sl I) .i out4] ++ List.replicate 24 .u) = spec_LettersOf_a5 out4 := by kernel_rfl
theorem spec_LettersOf_in5 (N : Nat) (w0 : (List Int)) (out4 : (List Int)) (i5 : Int) : spec_LettersOf_R5 (codeAt Try.f38 [1, 1, 1, 0, 1, 0, 0]) N N (blockK 0 (seqK ((A_spec_LettersOf).shape 19) (run (A_spec_LettersOf) N (codeAt Try.f38 [1, 1, 1, 1])) (finish (A_spec_LettersOf) S_spec_LettersOf Try.f38.results.toList))) w0 out4 i5 = spec_LettersOf_F5 N w0 out4 i5 :=
  have h : (fun (out4 : (List Int)) => (fun st' => run (A_spec_LettersOf) N (codeAt Try.f38 [1, 1, 1, 1]) st' (finish (A_spec_LettersOf) S_spec_LettersOf Try.f38.results.toList)) ([.u, .u, .u, .u, .val (.sl I) .i out4] ++ List.replicate 24 .u)) = (spec_LettersOf_a5) := (funext fun out4 => spec_LettersOf_after5 N out4)
  have e : spec_LettersOf_R5 (codeAt Try.f38 [1, 1, 1, 0, 1, 0, 0]) N N (blockK 0 (seqK ((A_spec_LettersOf).shape 19) (run (A_spec_LettersOf) N (codeAt Try.f38 [1, 1, 1, 1])) (finish (A_spec_LettersOf) S_spec_LettersOf Try.f38.results.toList))) w0 out4 i5 = spec_LettersOf_R5 (codeAt Try.f38 [1, 1, 1, 0, 1, 0, 0]) N N (exK (finish (A_spec_LettersOf) S_spec_LettersOf Try.f38.results.toList) 0 ((A_spec_LettersOf).shape 19) (fun st' => run (A_spec_LettersOf) N (codeAt Try.f38 [1, 1, 1, 1]) st' (finish (A_spec_LettersOf) S_spec_LettersOf Try.f38.results.toList)) (fun j st => (blockK 0 (seqK ((A_spec_LettersOf).shape 19) (run (A_spec_LettersOf) N (codeAt Try.f38 [1, 1, 1, 1])) (finish (A_spec_LettersOf) S_spec_LettersOf Try.f38.results.toList))) (.exit j) st)) w0 out4 i5 := iter_ex (fun st => by kernel_rfl) (fun st => by kernel_rfl)
  (e.trans (spec_LettersOf_iter5 N (fun st' => run (A_spec_LettersOf) N (codeAt Try.f38 [1, 1, 1, 1]) st' (finish (A_spec_LettersOf) S_spec_LettersOf Try.f38.results.toList)) (fun j st => (blockK 0 (seqK ((A_spec_LettersOf).shape 19) (run (A_spec_LettersOf) N (codeAt Try.f38 [1, 1, 1, 1])) (finish (A_spec_LettersOf) S_spec_LettersOf Try.f38.results.toList))) (.exit j) st) N w0 out4 i5)).trans (congrArg (fun k => spec_LettersOf_l5 N k N w0 out4 i5) h)
theorem run0_spec_LettersOf (N : Nat) (x : (S_spec_LettersOf).a.den) : runF (A_spec_LettersOf) N Try.f38 S_spec_LettersOf x = (spec_LettersOf_s (spec_LettersOf_R5 (codeAt Try.f38 [1, 1, 1, 0, 1, 0, 0]) N N (blockK 0 (seqK ((A_spec_LettersOf).shape 19) (run (A_spec_LettersOf) N (codeAt Try.f38 [1, 1, 1, 1])) (finish (A_spec_LettersOf) S_spec_LettersOf Try.f38.results.toList)))) x.1) := by kernel_rfl
theorem run_spec_LettersOf (N : Nat) (x : (S_spec_LettersOf).a.den) : runF (A_spec_LettersOf) N Try.f38 S_spec_LettersOf x = spec_LettersOf N x.1 := by
  refine (run0_spec_LettersOf N x).trans ?_
  rw [(funext fun w0 => (funext fun out4 => (funext fun i5 => spec_LettersOf_in5 N w0 out4 i5)))]
  rfl
theorem fn_spec_LettersOf : FnOk Try.prog 38 := ⟨_, Try.func38, by kernel_rfl, by kernel_rfl⟩
theorem good_spec_LettersOf : Gx.Good Try.prog 38 S_spec_LettersOf := good_of_run Try.func38 (of_decide_eq_true (by kernel_rfl)) fun x r h => ⟨A_spec_LettersOf, big, mkCfg_ok tabOk, mkCfg_sigs (show SigsOk Try.prog [(48, S_spec_l28Good), (62, S_spec_l1Put)] from ⟨⟨fn_spec_l28Good, good_spec_l28Good⟩, ⟨fn_spec_l1Put, good_spec_l1Put⟩, trivial⟩), (run_spec_LettersOf big x).trans h⟩

/-! impl_marked -/
def impl_marked_b3 (rec : (List Int) → (List Bool) → Int → Int → Option ((List Int) × Unit)) (k : (List Int) → Option ((List Int) × Unit)) (list3 : (List Int)) (t7 : (List Bool)) (t8 : Int) (t9 : Int) : Option ((List Int) × Unit) :=
  cond (decide (t9 < t8))
  ((atI t7 t9).bind fun xq1 =>
  cond xq1
  ((appI list3 [t9]).bind fun xq2 =>
  rec xq2 t7 t8 (IntKind.i64.wrap (t9 + (1 : Int))))
  (rec list3 t7 t8 (IntKind.i64.wrap (t9 + (1 : Int)))))
  (k list3)
def impl_marked_a3 (list3 : (List Int)) : Option ((List Int) × Unit) :=
  some (list3, (()))
def impl_marked_s (L3 : (List Int) → (List Bool) → Int → Int → Option ((List Int) × Unit)) (have_0 : (List Bool)) : Option ((List Int) × Unit) :=
  L3 [] have_0 (have_0.length : Int) (0 : Int)
def impl_marked_l3 (N : Nat) (k : (List Int) → Option ((List Int) × Unit)) : Nat → (List Int) → (List Bool) → Int → Int → Option ((List Int) × Unit)
  | 0, _, _, _, _ => none
  | m + 1, list3, t7, t8, t9 => impl_marked_b3 (impl_marked_l3 N k m) k list3 t7 t8 t9
def impl_marked_F3 (N : Nat) (list3 : (List Int)) (t7 : (List Bool)) (t8 : Int) (t9 : Int) : Option ((List Int) × Unit) := impl_marked_l3 N (impl_marked_a3) N list3 t7 t8 t9
def impl_marked (N : Nat) (have_0 : (List Bool)) : Option ((List Int) × Unit) := impl_marked_s (impl_marked_F3 N) have_0
def S_impl_marked : Sig := { a := (.pair (.sl .bool) .unit), md := [0], mf := [], m := .unit, r := (.sl I), rf := (.o .i), f := fun x => impl_marked big x.1 }
def A_impl_marked : Cfg := mkCfg tab [] [(6, [.drop, .drop, .drop, .as (.sl I) (.o .i), .drop, .drop, .drop, .as (.sl .bool) .i, .as I .i, .as I .i]), (17, [.drop, .drop, .drop, .as (.sl I) (.o .i)])]
def impl_marked_R3 (cd : Code) (N n : Nat) (K : Ex → St → Option ((List Int) × Unit)) (list3 : (List Int)) (t7 : (List Bool)) (t8 : Int) (t9 : Int) : Option ((List Int) × Unit) := iter ((A_impl_marked).shape 6) (run (A_impl_marked) N cd) n ([.u, .u, .u, .val (.sl I) (.o .i) list3, .u, .u, .u, .val (.sl .bool) .i t7, .val I .i t8, .val I .i t9] ++ List.replicate 11 .u) K
theorem impl_marked_step3 (N : Nat) (m : Nat) (kX : St → Option ((List Int) × Unit)) (kO : Nat → St → Option ((List Int) × Unit)) (list3 : (List Int)) (t7 : (List Bool)) (t8 : Int) (t9 : Int) : impl_marked_R3 (codeAt Try.f63 [1, 1, 0, 1, 0, 0]) N (m + 1) (exK (finish (A_impl_marked) S_impl_marked Try.f63.results.toList) 0 ((A_impl_marked).shape 17) kX kO) list3 t7 t8 t9 = impl_marked_b3 (impl_marked_R3 (codeAt Try.f63 [1, 1, 0, 1, 0, 0]) N m (exK (finish (A_impl_marked) S_impl_marked Try.f63.results.toList) 0 ((A_impl_marked).shape 17) kX kO)) (fun (list3 : (List Int)) => kX ([.u, .u, .u, .val (.sl I) (.o .i) list3] ++ List.replicate 17 .u)) list3 t7 t8 t9 := by kernel_rfl
theorem impl_marked_iter3 (N : Nat) (kX : St → Option ((List Int) × Unit)) (kO : Nat → St → Option ((List Int) × Unit)) : ∀ (n : Nat) (list3 : (List Int)) (t7 : (List Bool)) (t8 : Int) (t9 : Int), impl_marked_R3 (codeAt Try.f63 [1, 1, 0, 1, 0, 0]) N n (exK (finish (A_impl_marked) S_impl_marked Try.f63.results.toList) 0 ((A_impl_marked).shape 17) kX kO) list3 t7 t8 t9 = impl_marked_l3 N (fun (list3 : (List Int)) => kX ([.u, .u, .u, .val (.sl I) (.o .i) list3] ++ List.replicate 17 .u)) n list3 t7 t8 t9
  | 0, _, _, _, _ => rfl
  | m + 1, list3, t7, t8, t9 => by
    have hrec : impl_marked_R3 (codeAt Try.f63 [1, 1, 0, 1, 0, 0]) N m (exK (finish (A_impl_marked) S_impl_marked Try.f63.results.toList) 0 ((A_impl_marked).shape 17) kX kO) = (impl_marked_l3 N (fun (list3 : (List Int)) => kX ([.u, .u, .u, .val (.sl I) (.o .i) list3] ++ List.replicate 17 .u)) m) := (funext fun list3 => (funext fun t7 => (funext fun t8 => (funext fun t9 => impl_marked_iter3 N kX kO m list3 t7 t8 t9))))
    refine (impl_marked_step3 N m kX kO list3 t7 t8 t9).trans ?_
    rw [hrec]
    rfl
theorem impl_marked_after3 (N : Nat) (list3 : (List Int)) : (fun st' => run (A_impl_marked) N (codeAt Try.f63 [1, 1, 1]) st' (finish (A_impl_marked) S_impl_marked Try.f63.results.toList)) ([.u, .u, .u, .val (.sl I) (.o .i) list3] ++ List.replicate 17 .u) = impl_marked_a3 list3 := by kernel_rfl
theorem impl_marked_in3 (N : Nat) (list3 : (List Int)) (t7 : (List Bool)) (t8 : Int) (t9 : Int) : impl_marked_R3 (codeAt Try.f63 [1, 1, 0, 1, 0, 0]) N N (blockK 0 (seqK ((A_impl_marked).shape 17) (run (A_impl_marked) N (codeAt Try.f63 [1, 1, 1])) (finish (A_impl_marked) S_impl_marked Try.f63.results.toList))) list3 t7 t8 t9 = impl_marked_F3 N list3 t7 t8 t9 :=
  have h : (fun (list3 : (List Int)) => (fun st' => run (A_impl_marked) N (codeAt Try.f63 [1, 1, 1]) st' (finish (A_impl_marked) S_impl_marked Try.f63.results.toList)) ([.u, .u, .u, .val (.sl I) (.o .i) list3] ++ List.replicate 17 .u)) = (impl_marked_a3) := (funext fun list3 => impl_marked_after3 N list3)
  have e : impl_marked_R3 (codeAt Try.f63 [1, 1, 0, 1, 0, 0]) N N (blockK 0 (seqK ((A_impl_marked).shape 17) (run (A_impl_marked) N (codeAt Try.f63 [1, 1, 1])) (finish (A_impl_marked) S_impl_marked Try.f63.results.toList))) list3 t7 t8 t9 = impl_marked_R3 (codeAt Try.f63 [1, 1, 0, 1, 0, 0]) N N (exK (finish (A_impl_marked) S_impl_marked Try.f63.results.toList) 0 ((A_impl_marked).shape 17) (fun st' => run (A_impl_marked) N (codeAt Try.f63 [1, 1, 1]) st' (finish (A_impl_marked) S_impl_marked Try.f63.results.toList)) (fun j st => (blockK 0 (seqK ((A_impl_marked).shape 17) (run (A_impl_marked) N (codeAt Try.f63 [1, 1, 1])) (finish (A_impl_marked) S_impl_marked Try.f63.results.toList))) (.exit j) st)) list3 t7 t8 t9 := iter_ex (fun st => by kernel_rfl) (fun st => by kernel_rfl)
  (e.trans (impl_marked_iter3 N (fun st' => run (A_impl_marked) N (codeAt Try.f63 [1, 1, 1]) st' (finish (A_impl_marked) S_impl_marked Try.f63.results.toList)) (fun j st => (blockK 0 (seqK ((A_impl_marked).shape 17) (run (A_impl_marked) N (codeAt Try.f63 [1, 1, 1])) (finish (A_impl_marked) S_impl_marked Try.f63.results.toList))) (.exit j) st) N list3 t7 t8 t9)).trans (congrArg (fun k => impl_marked_l3 N k N list3 t7 t8 t9) h)
theorem run0_impl_marked (N : Nat) (x : (S_impl_marked).a.den) : runF (A_impl_marked) N Try.f63 S_impl_marked x = (impl_marked_s (impl_marked_R3 (codeAt Try.f63 [1, 1, 0, 1, 0, 0]) N N (blockK 0 (seqK ((A_impl_marked).shape 17) (run (A_impl_marked) N (codeAt Try.f63 [1, 1, 1])) (finish (A_impl_marked) S_impl_marked Try.f63.results.toList)))) x.1) := by kernel_rfl
theorem run_impl_marked (N : Nat) (x : (S_impl_marked).a.den) : runF (A_impl_marked) N Try.f63 S_impl_marked x = impl_marked N x.1 := by
  refine (run0_impl_marked N x).trans ?_
  rw [(funext fun list3 => (funext fun t7 => (funext fun t8 => (funext fun t9 => impl_marked_in3 N list3 t7 t8 t9))))]
  rfl
theorem fn_impl_marked : FnOk Try.prog 63 := ⟨_, Try.func63, by kernel_rfl, by kernel_rfl⟩
theorem good_impl_marked : Gx.Good Try.prog 63 S_impl_marked := good_of_run Try.func63 (of_decide_eq_true (by kernel_rfl)) fun x r h => ⟨A_impl_marked, big, mkCfg_ok tabOk, mkCfg_sigs (show SigsOk Try.prog [] from trivial), (run_impl_marked big x).trans h⟩

/-! impl_LettersOf -/
def impl_LettersOf_b5 (rec : (List Bool) → (List Int) → Int → Int → Option (((List Int) × (Bool × Unit)) × Unit)) (k : (List Bool) → Option (((List Int) × (Bool × Unit)) × Unit)) (have4 : (List Bool)) (t12 : (List Int)) (t13 : Int) (t14 : Int) : Option (((List Int) × (Bool × Unit)) × Unit) :=
  cond (decide (t14 < t13))
  ((atI t12 t14).bind fun xq4 =>
  cond (decide ((0 : Int) ≤ xq4))
  ((atI have4 xq4).bind fun _ =>
  (have4[xq4.toNat]?).bind fun xq5 =>
  rec (have4.set xq4.toNat true) t12 t13 (IntKind.i64.wrap (t14 + (1 : Int))))
  (rec have4 t12 t13 (IntKind.i64.wrap (t14 + (1 : Int)))))
  (k have4)
def impl_LettersOf_a5 (have4 : (List Bool)) : Option (((List Int) × (Bool × Unit)) × Unit) :=
  (impl_marked big have4).bind fun rq6 =>
  some ((rq6.1, true, ()), (()))
def impl_LettersOf_s (L5 : (List Bool) → (List Int) → Int → Int → Option (((List Int) × (Bool × Unit)) × Unit)) (w_0 : (List Int)) : Option (((List Int) × (Bool × Unit)) × Unit) :=
  (impl_IsWord w_0).bind fun rq1 =>
  cond (!rq1.1)
  (some (([], false, ()), (())))
  ((mkI false (5 : Int)).bind fun xq2 => (mkI false (5 : Int)).bind fun xq3 => cond (decide ((5 : Int) ≤ (5 : Int)))
  (L5 xq3 w_0 (w_0.length : Int) (0 : Int))
  none)
def impl_LettersOf_l5 (N : Nat) (k : (List Bool) → Option (((List Int) × (Bool × Unit)) × Unit)) : Nat → (List Bool) → (List Int) → Int → Int → Option (((List Int) × (Bool × Unit)) × Unit)
  | 0, _, _, _, _ => none
  | m + 1, have4, t12, t13, t14 => impl_LettersOf_b5 (impl_LettersOf_l5 N k m) k have4 t12 t13 t14
def impl_LettersOf_F5 (N : Nat) (have4 : (List Bool)) (t12 : (List Int)) (t13 : Int) (t14 : Int) : Option (((List Int) × (Bool × Unit)) × Unit) := impl_LettersOf_l5 N (impl_LettersOf_a5) N have4 t12 t13 t14
def impl_LettersOf (N : Nat) (w_0 : (List Int)) : Option (((List Int) × (Bool × Unit)) × Unit) := impl_LettersOf_s (impl_LettersOf_F5 N) w_0
def S_impl_LettersOf : Sig := { a := (.pair (.sl I) .unit), md := [0], mf := [], m := .unit, r := (.tup (.pair (.sl I) (.pair .bool .unit))), rf := (.p (.o .i) .i), f := fun x => impl_LettersOf big x.1 }
def A_impl_LettersOf : Cfg := mkCfg tab [(19, S_impl_IsWord), (63, S_impl_marked)] [(10, [.drop, .drop, .drop, .drop, .as (.sl .bool) (.o .i), .drop, .drop, .drop, .drop, .drop, .drop, .drop, .as (.sl I) .i, .as I .i, .as I .i]), (21, [.drop, .drop, .drop, .drop, .as (.sl .bool) (.o .i)])]
def impl_LettersOf_R5 (cd : Code) (N n : Nat) (K : Ex → St → Option (((List Int) × (Bool × Unit)) × Unit)) (have4 : (List Bool)) (t12 : (List Int)) (t13 : Int) (t14 : Int) : Option (((List Int) × (Bool × Unit)) × Unit) := iter ((A_impl_LettersOf).shape 10) (run (A_impl_LettersOf) N cd) n ([.u, .u, .u, .u, .val (.sl .bool) (.o .i) have4, .u, .u, .u, .u, .u, .u, .u, .val (.sl I) .i t12, .val I .i t13, .val I .i t14] ++ List.replicate 11 .u) K
theorem impl_LettersOf_step5 (N : Nat) (m : Nat) (kX : St → Option (((List Int) × (Bool × Unit)) × Unit)) (kO : Nat → St → Option (((List Int) × (Bool × Unit)) × Unit)) (have4 : (List Bool)) (t12 : (List Int)) (t13 : Int) (t14 : Int) : impl_LettersOf_R5 (codeAt Try.f39 [1, 1, 1, 0, 1, 0, 0]) N (m + 1) (exK (finish (A_impl_LettersOf) S_impl_LettersOf Try.f39.results.toList) 0 ((A_impl_LettersOf).shape 21) kX kO) have4 t12 t13 t14 = impl_LettersOf_b5 (impl_LettersOf_R5 (codeAt Try.f39 [1, 1, 1, 0, 1, 0, 0]) N m (exK (finish (A_impl_LettersOf) S_impl_LettersOf Try.f39.results.toList) 0 ((A_impl_LettersOf).shape 21) kX kO)) (fun (have4 : (List Bool)) => kX ([.u, .u, .u, .u, .val (.sl .bool) (.o .i) have4] ++ List.replicate 21 .u)) have4 t12 t13 t14 := by kernel_rfl
theorem impl_LettersOf_iter5 (N : Nat) (kX : St → Option (((List Int) × (Bool × Unit)) × Unit)) (kO : Nat → St → Option (((List Int) × (Bool × Unit)) × Unit)) : ∀ (n : Nat) (have4 : (List Bool)) (t12 : (List Int)) (t13 : Int) (t14 : Int), impl_LettersOf_R5 (codeAt Try.f39 [1, 1, 1, 0, 1, 0, 0]) N n (exK (finish (A_impl_LettersOf) S_impl_LettersOf Try.f39.results.toList) 0 ((A_impl_LettersOf).shape 21) kX kO) have4 t12 t13 t14 = impl_LettersOf_l5 N (fun (have4 : (List Bool)) => kX ([.u, .u, .u, .u, .val (.sl .bool) (.o .i) have4] ++ List.replicate 21 .u)) n have4 t12 t13 t14
  | 0, _, _, _, _ => rfl
  | m + 1, have4, t12, t13, t14 => by
    have hrec : impl_LettersOf_R5 (codeAt Try.f39 [1, 1, 1, 0, 1, 0, 0]) N m (exK (finish (A_impl_LettersOf) S_impl_LettersOf Try.f39.results.toList) 0 ((A_impl_LettersOf).shape 21) kX kO) = (impl_LettersOf_l5 N (fun (have4 : (List Bool)) => kX ([.u, .u, .u, .u, .val (.sl .bool) (.o .i) have4] ++ List.replicate 21 .u)) m) := (funext fun have4 => (funext fun t12 => (funext fun t13 => (funext fun t14 => impl_LettersOf_iter5 N kX kO m have4 t12 t13 t14))))
    refine (impl_LettersOf_step5 N m kX kO have4 t12 t13 t14).trans ?_
    rw [hrec]
    rfl
theorem impl_LettersOf_after5 (N : Nat) (have4 : (List Bool)) : (fun st' => run (A_impl_LettersOf) N (codeAt Try.f39 [1, 1, 1, 1]) st' (finish (A_impl_LettersOf) S_impl_LettersOf Try.f39.results.toList)) ([.u, .u, .u, .u, .val (.sl .bool) (.o .i) have4] ++ List.replicate 21 .u) = impl_LettersOf_a5 have4 := by kernel_rfl
theorem impl_LettersOf_in5 (N : Nat) (have4 : (List Bool)) (t12 : (List Int)) (t13 : Int) (t14 : Int) : impl_LettersOf_R5 (codeAt Try.f39 [1, 1, 1, 0, 1, 0, 0]) N N (blockK 0 (seqK ((A_impl_LettersOf).shape 21) (run (A_impl_LettersOf) N (codeAt Try.f39 [1, 1, 1, 1])) (finish (A_impl_LettersOf) S_impl_LettersOf Try.f39.results.toList))) have4 t12 t13 t14 = impl_LettersOf_F5 N have4 t12 t13 t14 :=
  have h : (fun (have4 : (List Bool)) => (fun st' => run (A_impl_LettersOf) N (codeAt Try.f39 [1, 1, 1, 1]) st' (finish (A_impl_LettersOf) S_impl_LettersOf Try.f39.results.toList)) ([.u, .u, .u, .u, .val (.sl .bool) (.o .i) have4] ++ List.replicate 21 .u)) = (impl_LettersOf_a5) := (funext fun have4 => impl_LettersOf_after5 N have4)
  have e : impl_LettersOf_R5 (codeAt Try.f39 [1, 1, 1, 0, 1, 0, 0]) N N (blockK 0 (seqK ((A_impl_LettersOf).shape 21) (run (A_impl_LettersOf) N (codeAt Try.f39 [1, 1, 1, 1])) (finish (A_impl_LettersOf) S_impl_LettersOf Try.f39.results.toList))) have4 t12 t13 t14 = impl_LettersOf_R5 (codeAt Try.f39 [1, 1, 1, 0, 1, 0, 0]) N N (exK (finish (A_impl_LettersOf) S_impl_LettersOf Try.f39.results.toList) 0 ((A_impl_LettersOf).shape 21) (fun st' => run (A_impl_LettersOf) N (codeAt Try.f39 [1, 1, 1, 1]) st' (finish (A_impl_LettersOf) S_impl_LettersOf Try.f39.results.toList)) (fun j st => (blockK 0 (seqK ((A_impl_LettersOf).shape 21) (run (A_impl_LettersOf) N (codeAt Try.f39 [1, 1, 1, 1])) (finish (A_impl_LettersOf) S_impl_LettersOf Try.f39.results.toList))) (.exit j) st)) have4 t12 t13 t14 := iter_ex (fun st => by kernel_rfl) (fun st => by kernel_rfl)
  (e.trans (impl_LettersOf_iter5 N (fun st' => run (A_impl_LettersOf) N (codeAt Try.f39 [1, 1, 1, 1]) st' (finish (A_impl_LettersOf) S_impl_LettersOf Try.f39.results.toList)) (fun j st => (blockK 0 (seqK ((A_impl_LettersOf).shape 21) (run (A_impl_LettersOf) N (codeAt Try.f39 [1, 1, 1, 1])) (finish (A_impl_LettersOf) S_impl_LettersOf Try.f39.results.toList))) (.exit j) st) N have4 t12 t13 t14)).trans (congrArg (fun k => impl_LettersOf_l5 N k N have4 t12 t13 t14) h)
theorem run0_impl_LettersOf (N : Nat) (x : (S_impl_LettersOf).a.den) : runF (A_impl_LettersOf) N Try.f39 S_impl_LettersOf x = (impl_LettersOf_s (impl_LettersOf_R5 (codeAt Try.f39 [1, 1, 1, 0, 1, 0, 0]) N N (blockK 0 (seqK ((A_impl_LettersOf).shape 21) (run (A_impl_LettersOf) N (codeAt Try.f39 [1, 1, 1, 1])) (finish (A_impl_LettersOf) S_impl_LettersOf Try.f39.results.toList)))) x.1) := by kernel_rfl
theorem run_impl_LettersOf (N : Nat) (x : (S_impl_LettersOf).a.den) : runF (A_impl_LettersOf) N Try.f39 S_impl_LettersOf x = impl_LettersOf N x.1 := by
  refine (run0_impl_LettersOf N x).trans ?_
  rw [(funext fun have4 => (funext fun t12 => (funext fun t13 => (funext fun t14 => impl_LettersOf_in5 N have4 t12 t13 t14))))]
  rfl
theorem fn_impl_LettersOf : FnOk Try.prog 39 := ⟨_, Try.func39, by kernel_rfl, by kernel_rfl⟩
theorem good_impl_LettersOf : Gx.Good Try.prog 39 S_impl_LettersOf := good_of_run Try.func39 (of_decide_eq_true (by kernel_rfl)) fun x r h => ⟨A_impl_LettersOf, big, mkCfg_ok tabOk, mkCfg_sigs (show SigsOk Try.prog [(19, S_impl_IsWord), (63, S_impl_marked)] from ⟨⟨fn_impl_IsWord, good_impl_IsWord⟩, ⟨fn_impl_marked, good_impl_marked⟩, trivial⟩), (run_impl_LettersOf big x).trans h⟩

/-! laws_FnExactLettersOf -/
def laws_FnExactLettersOf_s (aW_0 : (List Int)) : Option (Bool × Unit) :=
  cond (decide ((1048576 : Int) < (aW_0.length : Int)))
  (some (true, (())))
  ((laws_toIntS big aW_0).bind fun rq1 =>
  (spec_LettersOf big rq1.1).bind fun rq2 =>
  (laws_toIntS big aW_0).bind fun rq3 =>
  (impl_LettersOf big rq3.1).bind fun rq4 =>
  (laws_eqIntS big rq4.1.1 rq2.1.1).bind fun rq5 =>
  cond (!rq5.1)
  (some (false, (())))
  (cond (((((), rq4.1.2).2).1) != rq2.1.2.1)
  (some (false, (())))
  ((laws_toIntS big aW_0).bind fun rq6 =>
  (laws_eqIntS big rq3.1 rq6.1).bind fun rq7 =>
  cond (!rq7.1)
  (some (false, (())))
  ((laws_markIntS big rq3.1 (1 : Int)).bind fun rq8 =>
  cond (decide (rq8.1 < (0 : Int)))
  (some (false, (())))
  ((laws_eqIntS big rq4.1.1 rq2.1.1).bind fun rq9 =>
  cond (!rq9.1)
  (some (false, (())))
  (cond (((((), rq4.1.2).2).1) != rq2.1.2.1)
  (some (false, (())))
  ((laws_markIntS big rq4.1.1 (1 : Int)).bind fun rq10 =>
  (laws_heldIntS big rq10.2.1 (1 : Int)).bind fun rq11 =>
  cond (decide (rq11.1 < (0 : Int)))
  (some (false, (())))
  (cond (decide (rq11.1 ≠ rq10.1))
  (some (false, (())))
  ((laws_toIntS big aW_0).bind fun rq12 =>
  (impl_LettersOf big rq12.1).bind fun rq13 =>
  (laws_eqIntS big rq13.1.1 rq2.1.1).bind fun rq14 =>
  cond (!rq14.1)
  (some (false, (())))
  (cond (((((), rq13.1.2).2).1) != rq2.1.2.1)
  (some (false, (())))
  ((laws_heldIntS big rq10.2.1 (1 : Int)).bind fun rq15 =>
  cond (decide (rq15.1 < (0 : Int)))
  (some (false, (())))
  (cond (decide (rq15.1 ≠ rq10.1))
  (some (false, (())))
  (some (true, (())))))))))))))))
def laws_FnExactLettersOf (aW_0 : (List Int)) : Option (Bool × Unit) := laws_FnExactLettersOf_s aW_0
def S_laws_FnExactLettersOf : Sig := { a := (.pair (.sl I) .unit), md := [0], mf := [], m := .unit, r := .bool, rf := .i, f := fun x => laws_FnExactLettersOf x.1 }
def A_laws_FnExactLettersOf : Cfg := mkCfg tab [(18, S_laws_toIntS), (38, S_spec_LettersOf), (39, S_impl_LettersOf), (20, S_laws_eqIntS), (30, S_laws_markIntS), (31, S_laws_heldIntS)] []
theorem run_laws_FnExactLettersOf (N : Nat) (x : (S_laws_FnExactLettersOf).a.den) : runF (A_laws_FnExactLettersOf) N Try.f11 S_laws_FnExactLettersOf x = laws_FnExactLettersOf x.1 := by kernel_rfl
theorem fn_laws_FnExactLettersOf : FnOk Try.prog 11 := ⟨_, Try.func11, by kernel_rfl, by kernel_rfl⟩
theorem good_laws_FnExactLettersOf : Gx.Good Try.prog 11 S_laws_FnExactLettersOf := good_of_run Try.func11 (of_decide_eq_true (by kernel_rfl)) fun x r h => ⟨A_laws_FnExactLettersOf, big, mkCfg_ok tabOk, mkCfg_sigs (show SigsOk Try.prog [(18, S_laws_toIntS), (38, S_spec_LettersOf), (39, S_impl_LettersOf), (20, S_laws_eqIntS), (30, S_laws_markIntS), (31, S_laws_heldIntS)] from ⟨⟨fn_laws_toIntS, good_laws_toIntS⟩, ⟨fn_spec_LettersOf, good_spec_LettersOf⟩, ⟨fn_impl_LettersOf, good_impl_LettersOf⟩, ⟨fn_laws_eqIntS, good_laws_eqIntS⟩, ⟨fn_laws_markIntS, good_laws_markIntS⟩, ⟨fn_laws_heldIntS, good_laws_heldIntS⟩, trivial⟩), (run_laws_FnExactLettersOf big x).trans h⟩

/-! types of spec_l28From+spec_l28Ask -/
def T_spec_l28From (self : ((List Int) × ((List Int) × (Int × (Int × ((List Int) × Unit))))) → Option (Bool × ((List Int) × Unit))) : Sig := { a := (.pair (.sl I) (.pair (.sl I) (.pair I (.pair I (.pair (.sl I) .unit))))), md := [0, 0, 0, 0, 1], mf := [(.o .i)], m := (.pair (.sl I) .unit), r := .bool, rf := .i, f := self }
def T_spec_l28Ask (self : ((List Int) × ((List Int) × (Int × (Int × ((List Int) × Unit))))) → Option (Bool × ((List Int) × Unit))) : Sig := { a := (.pair (.sl I) (.pair (.sl I) (.pair I (.pair I (.pair (.sl I) .unit))))), md := [0, 0, 0, 0, 1], mf := [(.o .i)], m := (.pair (.sl I) .unit), r := .bool, rf := .i, f := self }

/-! spec_l28From -/
def spec_l28From_s (self_spec_l28From : ((List Int) × ((List Int) × (Int × (Int × ((List Int) × Unit))))) → Option (Bool × ((List Int) × Unit))) (self_spec_l28Ask : ((List Int) × ((List Int) × (Int × (Int × ((List Int) × Unit))))) → Option (Bool × ((List Int) × Unit))) (s_0 : (List Int)) (t_1 : (List Int)) (i_2 : Int) (k_3 : Int) (known_4 : (List Int)) : Option (Bool × ((List Int) × Unit)) :=
  (atI known_4 (IntKind.i64.wrap ((IntKind.i64.wrap (i_2 * (t_1.length : Int))) + k_3))).bind fun _ =>
  (known_4[(IntKind.i64.wrap ((IntKind.i64.wrap (i_2 * (t_1.length : Int))) + k_3)).toNat]?).bind fun xq1 =>
  cond (decide (xq1 = (0 : Int)))
  ((atI known_4 (IntKind.i64.wrap ((IntKind.i64.wrap (i_2 * (t_1.length : Int))) + k_3))).bind fun _ =>
  (known_4[(IntKind.i64.wrap ((IntKind.i64.wrap (i_2 * (t_1.length : Int))) + k_3)).toNat]?).bind fun xq2 =>
  (self_spec_l28Ask (s_0, t_1, i_2, k_3, known_4.set ((IntKind.i64.wrap ((IntKind.i64.wrap (i_2 * (t_1.length : Int))) + k_3)).toNat) (2 : Int), ())).bind fun rq3 =>
  cond rq3.1
  ((atI rq3.2.1 (IntKind.i64.wrap ((IntKind.i64.wrap (i_2 * (t_1.length : Int))) + k_3))).bind fun _ =>
  (rq3.2.1[(IntKind.i64.wrap ((IntKind.i64.wrap (i_2 * (t_1.length : Int))) + k_3)).toNat]?).bind fun xq4 =>
  (atI (rq3.2.1.set ((IntKind.i64.wrap ((IntKind.i64.wrap (i_2 * (t_1.length : Int))) + k_3)).toNat) (1 : Int)) (IntKind.i64.wrap ((IntKind.i64.wrap (i_2 * (t_1.length : Int))) + k_3))).bind fun _ =>
  ((rq3.2.1.set ((IntKind.i64.wrap ((IntKind.i64.wrap (i_2 * (t_1.length : Int))) + k_3)).toNat) (1 : Int))[(IntKind.i64.wrap ((IntKind.i64.wrap (i_2 * (t_1.length : Int))) + k_3)).toNat]?).bind fun xq5 =>
  some (decide (xq5 = (1 : Int)), (rq3.2.1.set ((IntKind.i64.wrap ((IntKind.i64.wrap (i_2 * (t_1.length : Int))) + k_3)).toNat) (1 : Int), ())))
  ((atI rq3.2.1 (IntKind.i64.wrap ((IntKind.i64.wrap (i_2 * (t_1.length : Int))) + k_3))).bind fun _ =>
  (rq3.2.1[(IntKind.i64.wrap ((IntKind.i64.wrap (i_2 * (t_1.length : Int))) + k_3)).toNat]?).bind fun xq6 =>
  some (decide (xq6 = (1 : Int)), (rq3.2.1, ()))))
  ((atI known_4 (IntKind.i64.wrap ((IntKind.i64.wrap (i_2 * (t_1.length : Int))) + k_3))).bind fun _ =>
  (known_4[(IntKind.i64.wrap ((IntKind.i64.wrap (i_2 * (t_1.length : Int))) + k_3)).toNat]?).bind fun xq7 =>
  some (decide (xq7 = (1 : Int)), (known_4, ())))
def spec_l28From (self_spec_l28From : ((List Int) × ((List Int) × (Int × (Int × ((List Int) × Unit))))) → Option (Bool × ((List Int) × Unit))) (self_spec_l28Ask : ((List Int) × ((List Int) × (Int × (Int × ((List Int) × Unit))))) → Option (Bool × ((List Int) × Unit))) (s_0 : (List Int)) (t_1 : (List Int)) (i_2 : Int) (k_3 : Int) (known_4 : (List Int)) : Option (Bool × ((List Int) × Unit)) := spec_l28From_s self_spec_l28From self_spec_l28Ask s_0 t_1 i_2 k_3 known_4
def A_spec_l28From (self_spec_l28From : ((List Int) × ((List Int) × (Int × (Int × ((List Int) × Unit))))) → Option (Bool × ((List Int) × Unit))) (self_spec_l28Ask : ((List Int) × ((List Int) × (Int × (Int × ((List Int) × Unit))))) → Option (Bool × ((List Int) × Unit))) : Cfg := mkCfg tab [(74, T_spec_l28Ask self_spec_l28Ask)] []
theorem run_spec_l28From (self_spec_l28From : ((List Int) × ((List Int) × (Int × (Int × ((List Int) × Unit))))) → Option (Bool × ((List Int) × Unit))) (self_spec_l28Ask : ((List Int) × ((List Int) × (Int × (Int × ((List Int) × Unit))))) → Option (Bool × ((List Int) × Unit))) (N : Nat) (x : ((T_spec_l28From self_spec_l28From)).a.den) : runF (A_spec_l28From self_spec_l28From self_spec_l28Ask) N Try.f72 (T_spec_l28From self_spec_l28From) x = spec_l28From self_spec_l28From self_spec_l28Ask x.1 x.2.1 x.2.2.1 x.2.2.2.1 x.2.2.2.2.1 := by kernel_rfl
theorem fn_spec_l28From : FnOk Try.prog 72 := ⟨_, Try.func72, by kernel_rfl, by kernel_rfl⟩

/-! spec_l28Ask -/
def spec_l28Ask_s (self_spec_l28From : ((List Int) × ((List Int) × (Int × (Int × ((List Int) × Unit))))) → Option (Bool × ((List Int) × Unit))) (self_spec_l28Ask : ((List Int) × ((List Int) × (Int × (Int × ((List Int) × Unit))))) → Option (Bool × ((List Int) × Unit))) (s_0 : (List Int)) (t_1 : (List Int)) (i_2 : Int) (k_3 : Int) (known_4 : (List Int)) : Option (Bool × ((List Int) × Unit)) :=
  (atI s_0 i_2).bind fun xq1 =>
  cond (decide (xq1 = (-2 : Int)))
  ((self_spec_l28From (s_0, t_1, IntKind.i64.wrap (i_2 + (1 : Int)), k_3, known_4, ())).bind fun rq2 =>
  cond rq2.1
  ((spec_l28End big s_0 (IntKind.i64.wrap (i_2 + (1 : Int)))).bind fun rq3 =>
  (self_spec_l28From (s_0, t_1, rq3.1, k_3, rq2.2.1, ())).bind fun rq4 =>
  some (rq4.1, (rq4.2.1, ())))
  (some (false, (rq2.2.1, ()))))
  ((atI t_1 k_3).bind fun xq5 =>
  cond (decide (xq5 = (-1 : Int)))
  ((self_spec_l28From (s_0, t_1, i_2, IntKind.i64.wrap (k_3 + (1 : Int)), known_4, ())).bind fun rq6 =>
  cond rq6.1
  ((spec_l28End big t_1 (IntKind.i64.wrap (k_3 + (1 : Int)))).bind fun rq7 =>
  (self_spec_l28From (s_0, t_1, i_2, rq7.1, rq6.2.1, ())).bind fun rq8 =>
  some (rq8.1, (rq8.2.1, ())))
  (some (false, (rq6.2.1, ()))))
  ((atI s_0 i_2).bind fun xq9 =>
  cond (decide ((0 : Int) ≤ xq9))
  ((atI t_1 k_3).bind fun xq10 =>
  cond (decide ((0 : Int) ≤ xq10))
  ((atI s_0 i_2).bind fun xq11 =>
  (atI t_1 k_3).bind fun xq12 =>
  some (decide (xq11 = xq12), (known_4, ())))
  ((atI s_0 i_2).bind fun xq13 =>
  cond (decide (xq13 = (-1 : Int)))
  ((self_spec_l28From (s_0, t_1, IntKind.i64.wrap (i_2 + (1 : Int)), k_3, known_4, ())).bind fun rq14 =>
  cond rq14.1
  (some (true, (rq14.2.1, ())))
  ((spec_l28End big s_0 (IntKind.i64.wrap (i_2 + (1 : Int)))).bind fun rq15 =>
  (self_spec_l28From (s_0, t_1, rq15.1, k_3, rq14.2.1, ())).bind fun rq16 =>
  cond rq16.1
  (some (true, (rq16.2.1, ())))
  ((atI t_1 k_3).bind fun xq17 =>
  cond (decide (xq17 = (-2 : Int)))
  ((self_spec_l28From (s_0, t_1, i_2, IntKind.i64.wrap (k_3 + (1 : Int)), rq16.2.1, ())).bind fun rq18 =>
  cond rq18.1
  (some (true, (rq18.2.1, ())))
  ((spec_l28End big t_1 (IntKind.i64.wrap (k_3 + (1 : Int)))).bind fun rq19 =>
  (self_spec_l28From (s_0, t_1, i_2, rq19.1, rq18.2.1, ())).bind fun rq20 =>
  some (rq20.1, (rq20.2.1, ()))))
  (some (false, (rq16.2.1, ()))))))
  ((atI t_1 k_3).bind fun xq21 =>
  cond (decide (xq21 = (-2 : Int)))
  ((self_spec_l28From (s_0, t_1, i_2, IntKind.i64.wrap (k_3 + (1 : Int)), known_4, ())).bind fun rq22 =>
  cond rq22.1
  (some (true, (rq22.2.1, ())))
  ((spec_l28End big t_1 (IntKind.i64.wrap (k_3 + (1 : Int)))).bind fun rq23 =>
  (self_spec_l28From (s_0, t_1, i_2, rq23.1, rq22.2.1, ())).bind fun rq24 =>
  some (rq24.1, (rq24.2.1, ()))))
  (some (false, (known_4, ()))))))
  ((atI s_0 i_2).bind fun xq25 =>
  cond (decide (xq25 = (-1 : Int)))
  ((self_spec_l28From (s_0, t_1, IntKind.i64.wrap (i_2 + (1 : Int)), k_3, known_4, ())).bind fun rq26 =>
  cond rq26.1
  (some (true, (rq26.2.1, ())))
  ((spec_l28End big s_0 (IntKind.i64.wrap (i_2 + (1 : Int)))).bind fun rq27 =>
  (self_spec_l28From (s_0, t_1, rq27.1, k_3, rq26.2.1, ())).bind fun rq28 =>
  cond rq28.1
  (some (true, (rq28.2.1, ())))
  ((atI t_1 k_3).bind fun xq29 =>
  cond (decide (xq29 = (-2 : Int)))
  ((self_spec_l28From (s_0, t_1, i_2, IntKind.i64.wrap (k_3 + (1 : Int)), rq28.2.1, ())).bind fun rq30 =>
  cond rq30.1
  (some (true, (rq30.2.1, ())))
  ((spec_l28End big t_1 (IntKind.i64.wrap (k_3 + (1 : Int)))).bind fun rq31 =>
  (self_spec_l28From (s_0, t_1, i_2, rq31.1, rq30.2.1, ())).bind fun rq32 =>
  some (rq32.1, (rq32.2.1, ()))))
  (some (false, (rq28.2.1, ()))))))
  ((atI t_1 k_3).bind fun xq33 =>
  cond (decide (xq33 = (-2 : Int)))
  ((self_spec_l28From (s_0, t_1, i_2, IntKind.i64.wrap (k_3 + (1 : Int)), known_4, ())).bind fun rq34 =>
  cond rq34.1
  (some (true, (rq34.2.1, ())))
  ((spec_l28End big t_1 (IntKind.i64.wrap (k_3 + (1 : Int)))).bind fun rq35 =>
  (self_spec_l28From (s_0, t_1, i_2, rq35.1, rq34.2.1, ())).bind fun rq36 =>
  some (rq36.1, (rq36.2.1, ()))))
  (some (false, (known_4, ())))))))
def spec_l28Ask (self_spec_l28From : ((List Int) × ((List Int) × (Int × (Int × ((List Int) × Unit))))) → Option (Bool × ((List Int) × Unit))) (self_spec_l28Ask : ((List Int) × ((List Int) × (Int × (Int × ((List Int) × Unit))))) → Option (Bool × ((List Int) × Unit))) (s_0 : (List Int)) (t_1 : (List Int)) (i_2 : Int) (k_3 : Int) (known_4 : (List Int)) : Option (Bool × ((List Int) × Unit)) := spec_l28Ask_s self_spec_l28From self_spec_l28Ask s_0 t_1 i_2 k_3 known_4
def A_spec_l28Ask (self_spec_l28From : ((List Int) × ((List Int) × (Int × (Int × ((List Int) × Unit))))) → Option (Bool × ((List Int) × Unit))) (self_spec_l28Ask : ((List Int) × ((List Int) × (Int × (Int × ((List Int) × Unit))))) → Option (Bool × ((List Int) × Unit))) : Cfg := mkCfg tab [(72, T_spec_l28From self_spec_l28From), (69, S_spec_l28End)] []
theorem run_spec_l28Ask (self_spec_l28From : ((List Int) × ((List Int) × (Int × (Int × ((List Int) × Unit))))) → Option (Bool × ((List Int) × Unit))) (self_spec_l28Ask : ((List Int) × ((List Int) × (Int × (Int × ((List Int) × Unit))))) → Option (Bool × ((List Int) × Unit))) (N : Nat) (x : ((T_spec_l28Ask self_spec_l28Ask)).a.den) : runF (A_spec_l28Ask self_spec_l28From self_spec_l28Ask) N Try.f74 (T_spec_l28Ask self_spec_l28Ask) x = spec_l28Ask self_spec_l28From self_spec_l28Ask x.1 x.2.1 x.2.2.1 x.2.2.2.1 x.2.2.2.2.1 := by kernel_rfl
theorem fn_spec_l28Ask : FnOk Try.prog 74 := ⟨_, Try.func74, by kernel_rfl, by kernel_rfl⟩

/-! recursion -/
def RR_spec_l28From_spec_l28Ask : Nat → (((List Int) × ((List Int) × (Int × (Int × ((List Int) × Unit))))) → Option (Bool × ((List Int) × Unit))) × (((List Int) × ((List Int) × (Int × (Int × ((List Int) × Unit))))) → Option (Bool × ((List Int) × Unit)))
  | 0 => (fun _ => none, fun _ => none)
  | d + 1 => (fun x => spec_l28From (RR_spec_l28From_spec_l28Ask d).1 (RR_spec_l28From_spec_l28Ask d).2 x.1 x.2.1 x.2.2.1 x.2.2.2.1 x.2.2.2.2.1, fun x => spec_l28Ask (RR_spec_l28From_spec_l28Ask d).1 (RR_spec_l28From_spec_l28Ask d).2 x.1 x.2.1 x.2.2.1 x.2.2.2.1 x.2.2.2.2.1)
def R_spec_l28From (d : Nat) : ((List Int) × ((List Int) × (Int × (Int × ((List Int) × Unit))))) → Option (Bool × ((List Int) × Unit)) := (RR_spec_l28From_spec_l28Ask d).1
def S_spec_l28From : Sig := T_spec_l28From (R_spec_l28From big)
def R_spec_l28Ask (d : Nat) : ((List Int) × ((List Int) × (Int × (Int × ((List Int) × Unit))))) → Option (Bool × ((List Int) × Unit)) := (RR_spec_l28From_spec_l28Ask d).2
def S_spec_l28Ask : Sig := T_spec_l28Ask (R_spec_l28Ask big)
theorem goodRR_spec_l28From_spec_l28Ask : ∀ d, Gx.Good Try.prog 72 (T_spec_l28From (R_spec_l28From d)) ∧ Gx.Good Try.prog 74 (T_spec_l28Ask (R_spec_l28Ask d))
  | 0 => ⟨(fun x r h => by cases (show (none : Option _) = some r from h)), (fun x r h => by cases (show (none : Option _) = some r from h))⟩
  | d + 1 => ⟨(good_of_run Try.func72 (of_decide_eq_true (by kernel_rfl)) fun x r h => ⟨A_spec_l28From (R_spec_l28From d) (R_spec_l28Ask d), big, mkCfg_ok tabOk, mkCfg_sigs (show SigsOk Try.prog [(74, T_spec_l28Ask (R_spec_l28Ask d))] from ⟨⟨fn_spec_l28Ask, (goodRR_spec_l28From_spec_l28Ask d).2⟩, trivial⟩), (run_spec_l28From (R_spec_l28From d) (R_spec_l28Ask d) big x).trans h⟩), (good_of_run Try.func74 (of_decide_eq_true (by kernel_rfl)) fun x r h => ⟨A_spec_l28Ask (R_spec_l28From d) (R_spec_l28Ask d), big, mkCfg_ok tabOk, mkCfg_sigs (show SigsOk Try.prog [(72, T_spec_l28From (R_spec_l28From d)), (69, S_spec_l28End)] from ⟨⟨fn_spec_l28From, (goodRR_spec_l28From_spec_l28Ask d).1⟩, ⟨fn_spec_l28End, good_spec_l28End⟩, trivial⟩), (run_spec_l28Ask (R_spec_l28From d) (R_spec_l28Ask d) big x).trans h⟩)⟩
theorem good_spec_l28From : Gx.Good Try.prog 72 S_spec_l28From := (goodRR_spec_l28From_spec_l28Ask big).1
theorem good_spec_l28Ask : Gx.Good Try.prog 74 S_spec_l28Ask := (goodRR_spec_l28From_spec_l28Ask big).2

/-! spec_l28Below -/
def spec_l28Below_s (s_0 : (List Int)) (t_1 : (List Int)) : Option (Bool × Unit) :=
  (mkI (0 : Int) (IntKind.i64.wrap ((s_0.length : Int) * (t_1.length : Int)))).bind fun xq1 => (mkI (0 : Int) (IntKind.i64.wrap ((s_0.length : Int) * (t_1.length : Int)))).bind fun xq2 => cond (decide ((IntKind.i64.wrap ((s_0.length : Int) * (t_1.length : Int))) ≤ (IntKind.i64.wrap ((s_0.length : Int) * (t_1.length : Int)))))
  ((R_spec_l28From big (s_0, t_1, (0 : Int), (0 : Int), xq2, ())).bind fun rq3 =>
  some (rq3.1, (())))
  none
def spec_l28Below (s_0 : (List Int)) (t_1 : (List Int)) : Option (Bool × Unit) := spec_l28Below_s s_0 t_1
def S_spec_l28Below : Sig := { a := (.pair (.sl I) (.pair (.sl I) .unit)), md := [0, 0], mf := [], m := .unit, r := .bool, rf := .i, f := fun x => spec_l28Below x.1 x.2.1 }
def A_spec_l28Below : Cfg := mkCfg tab [(72, S_spec_l28From)] []
theorem run_spec_l28Below (N : Nat) (x : (S_spec_l28Below).a.den) : runF (A_spec_l28Below) N Try.f64 S_spec_l28Below x = spec_l28Below x.1 x.2.1 := by kernel_rfl
theorem fn_spec_l28Below : FnOk Try.prog 64 := ⟨_, Try.func64, by kernel_rfl, by kernel_rfl⟩
theorem good_spec_l28Below : Gx.Good Try.prog 64 S_spec_l28Below := good_of_run Try.func64 (of_decide_eq_true (by kernel_rfl)) fun x r h => ⟨A_spec_l28Below, big, mkCfg_ok tabOk, mkCfg_sigs (show SigsOk Try.prog [(72, S_spec_l28From)] from ⟨⟨fn_spec_l28From, good_spec_l28From⟩, trivial⟩), (run_spec_l28Below big x).trans h⟩

/-! spec_WordBelow -/
def spec_WordBelow_s (s_0 : (List Int)) (t_1 : (List Int)) : Option ((Bool × (Bool × Unit)) × Unit) :=
  (spec_l28Two s_0 t_1).bind fun rq1 =>
  cond (!rq1.1)
  (some ((false, false, ()), (())))
  ((spec_l28Below s_0 t_1).bind fun rq2 =>
  some ((rq2.1, true, ()), (())))
def spec_WordBelow (s_0 : (List Int)) (t_1 : (List Int)) : Option ((Bool × (Bool × Unit)) × Unit) := spec_WordBelow_s s_0 t_1
def S_spec_WordBelow : Sig := { a := (.pair (.sl I) (.pair (.sl I) .unit)), md := [0, 0], mf := [], m := .unit, r := (.tup (.pair .bool (.pair .bool .unit))), rf := .i, f := fun x => spec_WordBelow x.1 x.2.1 }
def A_spec_WordBelow : Cfg := mkCfg tab [(55, S_spec_l28Two), (64, S_spec_l28Below)] []
theorem run_spec_WordBelow (N : Nat) (x : (S_spec_WordBelow).a.den) : runF (A_spec_WordBelow) N Try.f40 S_spec_WordBelow x = spec_WordBelow x.1 x.2.1 := by kernel_rfl
theorem fn_spec_WordBelow : FnOk Try.prog 40 := ⟨_, Try.func40, by kernel_rfl, by kernel_rfl⟩
theorem good_spec_WordBelow : Gx.Good Try.prog 40 S_spec_WordBelow := good_of_run Try.func40 (of_decide_eq_true (by kernel_rfl)) fun x r h => ⟨A_spec_WordBelow, big, mkCfg_ok tabOk, mkCfg_sigs (show SigsOk Try.prog [(55, S_spec_l28Two), (64, S_spec_l28Below)] from ⟨⟨fn_spec_l28Two, good_spec_l28Two⟩, ⟨fn_spec_l28Below, good_spec_l28Below⟩, trivial⟩), (run_spec_WordBelow big x).trans h⟩

/-! types of spec_l28Read -/
def T_spec_l28Read (self : ((List UInt8) × (Int × Unit)) → Option (((List Int) × (Int × Unit)) × Unit)) : Sig := { a := (.pair .str (.pair I .unit)), md := [0, 0], mf := [], m := .unit, r := (.tup (.pair (.sl I) (.pair I .unit))), rf := (.p (.o .i) .i), f := self }

/-! spec_l28Read -/
def spec_l28Read_s (self_spec_l28Read : ((List UInt8) × (Int × Unit)) → Option (((List Int) × (Int × Unit)) × Unit)) (s_0 : (List UInt8)) (at_1 : Int) : Option (((List Int) × (Int × Unit)) × Unit) :=
  cond (decide ((s_0.length : Int) ≤ at_1))
  (some (([], (-1 : Int), ()), (())))
  ((atI s_0 at_1).bind fun xq1 =>
  (spec_l1In (IntKind.i64.wrap (xq1.toNat : Int)) (97 : Int) (101 : Int)).bind fun rq2 =>
  cond rq2.1
  ((atI s_0 at_1).bind fun xq3 =>
  some (([IntKind.i64.wrap (IntKind.u8.wrap ((xq3.toNat : Int) - (97 : Int)))], IntKind.i64.wrap (at_1 + (1 : Int)), ()), (())))
  ((atI s_0 at_1).bind fun xq4 =>
  cond (decide ((xq4.toNat : Int) ≠ (40 : Int)))
  (some (([], (-1 : Int), ()), (())))
  ((self_spec_l28Read (s_0, IntKind.i64.wrap (at_1 + (1 : Int)), ())).bind fun rq5 =>
  cond (decide (((((), rq5.1.2).2).1) < (0 : Int)))
  (some (([], (-1 : Int), ()), (())))
  (cond (decide ((s_0.length : Int) ≤ ((((), rq5.1.2).2).1)))
  (some (([], (-1 : Int), ()), (())))
  ((atI s_0 ((((), rq5.1.2).2).1)).bind fun xq6 =>
  cond (decide ((xq6.toNat : Int) ≠ (38 : Int)))
  ((atI s_0 ((((), rq5.1.2).2).1)).bind fun xq7 =>
  cond (decide ((xq7.toNat : Int) ≠ (124 : Int)))
  (some (([], (-1 : Int), ()), (())))
  ((atI s_0 ((((), rq5.1.2).2).1)).bind fun xq8 =>
  cond (decide ((xq8.toNat : Int) = (124 : Int)))
  ((self_spec_l28Read (s_0, IntKind.i64.wrap (((((), rq5.1.2).2).1) + (1 : Int)), ())).bind fun rq9 =>
  cond (decide (((((), rq9.1.2).2).1) < (0 : Int)))
  (some (([], (-1 : Int), ()), (())))
  (cond (decide ((s_0.length : Int) ≤ ((((), rq9.1.2).2).1)))
  (some (([], (-1 : Int), ()), (())))
  ((atI s_0 ((((), rq9.1.2).2).1)).bind fun xq10 =>
  cond (decide ((xq10.toNat : Int) ≠ (41 : Int)))
  (some (([], (-1 : Int), ()), (())))
  ((appI [(-2 : Int)] rq5.1.1).bind fun xq11 =>
  (appI xq11 rq9.1.1).bind fun xq12 =>
  some ((xq12, IntKind.i64.wrap (((((), rq9.1.2).2).1) + (1 : Int)), ()), (()))))))
  ((self_spec_l28Read (s_0, IntKind.i64.wrap (((((), rq5.1.2).2).1) + (1 : Int)), ())).bind fun rq13 =>
  cond (decide (((((), rq13.1.2).2).1) < (0 : Int)))
  (some (([], (-1 : Int), ()), (())))
  (cond (decide ((s_0.length : Int) ≤ ((((), rq13.1.2).2).1)))
  (some (([], (-1 : Int), ()), (())))
  ((atI s_0 ((((), rq13.1.2).2).1)).bind fun xq14 =>
  cond (decide ((xq14.toNat : Int) ≠ (41 : Int)))
  (some (([], (-1 : Int), ()), (())))
  ((appI [(-1 : Int)] rq5.1.1).bind fun xq15 =>
  (appI xq15 rq13.1.1).bind fun xq16 =>
  some ((xq16, IntKind.i64.wrap (((((), rq13.1.2).2).1) + (1 : Int)), ()), (()))))))))
  ((atI s_0 ((((), rq5.1.2).2).1)).bind fun xq17 =>
  cond (decide ((xq17.toNat : Int) = (124 : Int)))
  ((self_spec_l28Read (s_0, IntKind.i64.wrap (((((), rq5.1.2).2).1) + (1 : Int)), ())).bind fun rq18 =>
  cond (decide (((((), rq18.1.2).2).1) < (0 : Int)))
  (some (([], (-1 : Int), ()), (())))
  (cond (decide ((s_0.length : Int) ≤ ((((), rq18.1.2).2).1)))
  (some (([], (-1 : Int), ()), (())))
  ((atI s_0 ((((), rq18.1.2).2).1)).bind fun xq19 =>
  cond (decide ((xq19.toNat : Int) ≠ (41 : Int)))
  (some (([], (-1 : Int), ()), (())))
  ((appI [(-2 : Int)] rq5.1.1).bind fun xq20 =>
  (appI xq20 rq18.1.1).bind fun xq21 =>
  some ((xq21, IntKind.i64.wrap (((((), rq18.1.2).2).1) + (1 : Int)), ()), (()))))))
  ((self_spec_l28Read (s_0, IntKind.i64.wrap (((((), rq5.1.2).2).1) + (1 : Int)), ())).bind fun rq22 =>
  cond (decide (((((), rq22.1.2).2).1) < (0 : Int)))
  (some (([], (-1 : Int), ()), (())))
  (cond (decide ((s_0.length : Int) ≤ ((((), rq22.1.2).2).1)))
  (some (([], (-1 : Int), ()), (())))
  ((atI s_0 ((((), rq22.1.2).2).1)).bind fun xq23 =>
  cond (decide ((xq23.toNat : Int) ≠ (41 : Int)))
  (some (([], (-1 : Int), ()), (())))
  ((appI [(-1 : Int)] rq5.1.1).bind fun xq24 =>
  (appI xq24 rq22.1.1).bind fun xq25 =>
  some ((xq25, IntKind.i64.wrap (((((), rq22.1.2).2).1) + (1 : Int)), ()), (()))))))))))))
def spec_l28Read (self_spec_l28Read : ((List UInt8) × (Int × Unit)) → Option (((List Int) × (Int × Unit)) × Unit)) (s_0 : (List UInt8)) (at_1 : Int) : Option (((List Int) × (Int × Unit)) × Unit) := spec_l28Read_s self_spec_l28Read s_0 at_1
def A_spec_l28Read (self_spec_l28Read : ((List UInt8) × (Int × Unit)) → Option (((List Int) × (Int × Unit)) × Unit)) : Cfg := mkCfg tab [(46, S_spec_l1In), (66, T_spec_l28Read self_spec_l28Read)] []
theorem run_spec_l28Read (self_spec_l28Read : ((List UInt8) × (Int × Unit)) → Option (((List Int) × (Int × Unit)) × Unit)) (N : Nat) (x : ((T_spec_l28Read self_spec_l28Read)).a.den) : runF (A_spec_l28Read self_spec_l28Read) N Try.f66 (T_spec_l28Read self_spec_l28Read) x = spec_l28Read self_spec_l28Read x.1 x.2.1 := by kernel_rfl
theorem fn_spec_l28Read : FnOk Try.prog 66 := ⟨_, Try.func66, by kernel_rfl, by kernel_rfl⟩

/-! recursion -/
def R_spec_l28Read : Nat → ((List UInt8) × (Int × Unit)) → Option (((List Int) × (Int × Unit)) × Unit)
  | 0, _ => none
  | d + 1, x => spec_l28Read (R_spec_l28Read d) x.1 x.2.1
def S_spec_l28Read : Sig := T_spec_l28Read (R_spec_l28Read big)
theorem goodR_spec_l28Read : ∀ d, Gx.Good Try.prog 66 (T_spec_l28Read (R_spec_l28Read d))
  | 0 => fun x r h => by cases h
  | d + 1 => good_of_run Try.func66 (of_decide_eq_true (by kernel_rfl)) fun x r h => ⟨A_spec_l28Read (R_spec_l28Read d), big, mkCfg_ok tabOk, mkCfg_sigs (show SigsOk Try.prog [(46, S_spec_l1In), (66, T_spec_l28Read (R_spec_l28Read d))] from ⟨⟨fn_spec_l1In, good_spec_l1In⟩, ⟨fn_spec_l28Read, goodR_spec_l28Read d⟩, trivial⟩), (run_spec_l28Read (R_spec_l28Read d) big x).trans h⟩
theorem good_spec_l28Read : Gx.Good Try.prog 66 S_spec_l28Read := goodR_spec_l28Read big

/-! spec_ParseWord -/
def spec_ParseWord_s (s_0 : (List UInt8)) : Option (((List Int) × (Bool × Unit)) × Unit) :=
  cond (decide ((160 : Int) < (s_0.length : Int)))
  (some (([], false, ()), (())))
  ((R_spec_l28Read big (s_0, (0 : Int), ())).bind fun rq1 =>
  cond (decide (((((), rq1.1.2).2).1) ≠ (s_0.length : Int)))
  (some (([], false, ()), (())))
  ((spec_l28Good rq1.1.1).bind fun rq2 =>
  cond (!rq2.1)
  (some (([], false, ()), (())))
  (some ((rq1.1.1, true, ()), (())))))
def spec_ParseWord (s_0 : (List UInt8)) : Option (((List Int) × (Bool × Unit)) × Unit) := spec_ParseWord_s s_0
def S_spec_ParseWord : Sig := { a := (.pair .str .unit), md := [0], mf := [], m := .unit, r := (.tup (.pair (.sl I) (.pair .bool .unit))), rf := (.p (.o .i) .i), f := fun x => spec_ParseWord x.1 }
def A_spec_ParseWord : Cfg := mkCfg tab [(66, S_spec_l28Read), (48, S_spec_l28Good)] []
theorem run_spec_ParseWord (N : Nat) (x : (S_spec_ParseWord).a.den) : runF (A_spec_ParseWord) N Try.f42 S_spec_ParseWord x = spec_ParseWord x.1 := by kernel_rfl
theorem fn_spec_ParseWord : FnOk Try.prog 42 := ⟨_, Try.func42, by kernel_rfl, by kernel_rfl⟩
theorem good_spec_ParseWord : Gx.Good Try.prog 42 S_spec_ParseWord := good_of_run Try.func42 (of_decide_eq_true (by kernel_rfl)) fun x r h => ⟨A_spec_ParseWord, big, mkCfg_ok tabOk, mkCfg_sigs (show SigsOk Try.prog [(66, S_spec_l28Read), (48, S_spec_l28Good)] from ⟨⟨fn_spec_l28Read, good_spec_l28Read⟩, ⟨fn_spec_l28Good, good_spec_l28Good⟩, trivial⟩), (run_spec_ParseWord big x).trans h⟩

/-! spec_WordsEqual -/
def spec_WordsEqual_s (s_0 : (List Int)) (t_1 : (List Int)) : Option ((Bool × (Bool × Unit)) × Unit) :=
  (spec_l28Two s_0 t_1).bind fun rq1 =>
  cond (!rq1.1)
  (some ((false, false, ()), (())))
  ((spec_l28Below s_0 t_1).bind fun rq2 =>
  cond rq2.1
  ((spec_l28Below t_1 s_0).bind fun rq3 =>
  some ((rq3.1, true, ()), (())))
  (some ((false, true, ()), (()))))
def spec_WordsEqual (s_0 : (List Int)) (t_1 : (List Int)) : Option ((Bool × (Bool × Unit)) × Unit) := spec_WordsEqual_s s_0 t_1
def S_spec_WordsEqual : Sig := { a := (.pair (.sl I) (.pair (.sl I) .unit)), md := [0, 0], mf := [], m := .unit, r := (.tup (.pair .bool (.pair .bool .unit))), rf := .i, f := fun x => spec_WordsEqual x.1 x.2.1 }
def A_spec_WordsEqual : Cfg := mkCfg tab [(55, S_spec_l28Two), (64, S_spec_l28Below)] []
theorem run_spec_WordsEqual (N : Nat) (x : (S_spec_WordsEqual).a.den) : runF (A_spec_WordsEqual) N Try.f44 S_spec_WordsEqual x = spec_WordsEqual x.1 x.2.1 := by kernel_rfl
theorem fn_spec_WordsEqual : FnOk Try.prog 44 := ⟨_, Try.func44, by kernel_rfl, by kernel_rfl⟩
theorem good_spec_WordsEqual : Gx.Good Try.prog 44 S_spec_WordsEqual := good_of_run Try.func44 (of_decide_eq_true (by kernel_rfl)) fun x r h => ⟨A_spec_WordsEqual, big, mkCfg_ok tabOk, mkCfg_sigs (show SigsOk Try.prog [(55, S_spec_l28Two), (64, S_spec_l28Below)] from ⟨⟨fn_spec_l28Two, good_spec_l28Two⟩, ⟨fn_spec_l28Below, good_spec_l28Below⟩, trivial⟩), (run_spec_WordsEqual big x).trans h⟩
end Go.Proofs.Ytpomjejencfiiaa
