import Derived.Test.YtmpeokbbmicdgaaWA
set_option maxRecDepth 100000
set_option linter.unusedVariables false
namespace Go.Proofs.Ytmpeokbbmicdgaa
open Go Go.Gx Go.Proofs
noncomputable section

/-! impl_WordText -/
def impl_WordText_s (w_0 : (List Int)) : Option (((List UInt8) × (Bool × Unit)) × Unit) :=
  (impl_IsWord w_0).bind fun rq1 =>
  cond (!rq1.1)
  (some (([], false, ()), (())))
  ((impl_wordText w_0).bind fun rq2 =>
  some ((rq2.1, true, ()), (())))
def impl_WordText (w_0 : (List Int)) : Option (((List UInt8) × (Bool × Unit)) × Unit) := impl_WordText_s w_0
def S_impl_WordText : Sig := { a := (.pair (.sl I) .unit), md := [0], mf := [], m := .unit, r := (.tup (.pair .str (.pair .bool .unit))), rf := .i, f := fun x => impl_WordText x.1 }
def A_impl_WordText : Cfg := mkCfg tab [(10, S_impl_IsWord), (11, S_impl_wordText)] []
theorem run_impl_WordText (N : Nat) (x : (S_impl_WordText).a.den) : runF (A_impl_WordText) N Try.f6 S_impl_WordText x = impl_WordText x.1 := by kernel_rfl
theorem fn_impl_WordText : FnOk Try.prog 6 := ⟨_, Try.func6, by kernel_rfl, by kernel_rfl⟩
theorem good_impl_WordText : Gx.Good Try.prog 6 S_impl_WordText := good_of_run Try.func6 (of_decide_eq_true (by kernel_rfl)) fun x r h => ⟨A_impl_WordText, big, mkCfg_ok tabOk, mkCfg_sigs (show SigsOk Try.prog [(10, S_impl_IsWord), (11, S_impl_wordText)] from ⟨⟨fn_impl_IsWord, good_impl_IsWord⟩, ⟨fn_impl_wordText, good_impl_wordText⟩, trivial⟩), (run_impl_WordText big x).trans h⟩

/-! laws_eqIntS -/
def laws_eqIntS_b4 (rec : (List Int) → (List Int) → Int → Option (Bool × Unit)) (k : Option (Bool × Unit)) (a0 : (List Int)) (b1 : (List Int)) (i5 : Int) : Option (Bool × Unit) :=
  cond (decide (i5 < (a0.length : Int)))
  ((atI a0 i5).bind fun xq1 =>
  (atI b1 i5).bind fun xq2 =>
  cond (decide (xq1 ≠ xq2))
  (some (false, (())))
  (rec a0 b1 (IntKind.i64.wrap (i5 + (1 : Int)))))
  (k)
def laws_eqIntS_a4 : Option (Bool × Unit) :=
  some (true, (()))
def laws_eqIntS_s (L4 : (List Int) → (List Int) → Int → Option (Bool × Unit)) (a_0 : (List Int)) (b_1 : (List Int)) : Option (Bool × Unit) :=
  cond (decide ((a_0.length : Int) ≠ (b_1.length : Int)))
  (some (false, (())))
  (L4 a_0 b_1 (0 : Int))
def laws_eqIntS_l4 (N : Nat) (k : Option (Bool × Unit)) : Nat → (List Int) → (List Int) → Int → Option (Bool × Unit)
  | 0, _, _, _ => none
  | m + 1, a0, b1, i5 => laws_eqIntS_b4 (laws_eqIntS_l4 N k m) k a0 b1 i5
def laws_eqIntS_F4 (N : Nat) (a0 : (List Int)) (b1 : (List Int)) (i5 : Int) : Option (Bool × Unit) := laws_eqIntS_l4 N (laws_eqIntS_a4) N a0 b1 i5
def laws_eqIntS (N : Nat) (a_0 : (List Int)) (b_1 : (List Int)) : Option (Bool × Unit) := laws_eqIntS_s (laws_eqIntS_F4 N) a_0 b_1
def S_laws_eqIntS : Sig := { a := (.pair (.sl I) (.pair (.sl I) .unit)), md := [0, 0], mf := [], m := .unit, r := .bool, rf := .i, f := fun x => laws_eqIntS big x.1 x.2.1 }
def A_laws_eqIntS : Cfg := mkCfg tab [] [(8, [.as (.sl I) .i, .as (.sl I) .i, .drop, .drop, .drop, .as I .i]), (17, [])]
noncomputable def laws_eqIntS_R4 (N n : Nat) (K : Ex → St → Option (Bool × Unit)) (a0 : (List Int)) (b1 : (List Int)) (i5 : Int) : Option (Bool × Unit) := iter ((A_laws_eqIntS).shape 8) (run (A_laws_eqIntS) N (codeAt Try.f7 [1, 1, 0, 1, 0, 0])) n ([.val (.sl I) .i a0, .val (.sl I) .i b1, .u, .u, .u, .val I .i i5] ++ List.replicate 20 .u) K
noncomputable abbrev laws_eqIntS_z : Ex → St → Option (Bool × Unit) := finish (A_laws_eqIntS) S_laws_eqIntS Try.f7.results.toList
noncomputable abbrev laws_eqIntS_X4 (kX : St → Option (Bool × Unit)) : Option (Bool × Unit) := kX ([] ++ List.replicate 26 .u)
noncomputable abbrev laws_eqIntS_E4 (kX : St → Option (Bool × Unit)) (kO : Nat → St → Option (Bool × Unit)) : Ex → St → Option (Bool × Unit) := exK laws_eqIntS_z 0 ((A_laws_eqIntS).shape 17) kX kO
theorem laws_eqIntS_step4 (N : Nat) (m : Nat) (kX : St → Option (Bool × Unit)) (kO : Nat → St → Option (Bool × Unit)) (a0 : (List Int)) (b1 : (List Int)) (i5 : Int) : laws_eqIntS_R4 N (m + 1) (laws_eqIntS_E4 kX kO) a0 b1 i5 = laws_eqIntS_b4 (laws_eqIntS_R4 N m (laws_eqIntS_E4 kX kO)) (laws_eqIntS_X4 kX) a0 b1 i5 := by kernel_rfl
theorem laws_eqIntS_iter4 (N : Nat) (kX : St → Option (Bool × Unit)) (kO : Nat → St → Option (Bool × Unit)) : ∀ (n : Nat) (a0 : (List Int)) (b1 : (List Int)) (i5 : Int), laws_eqIntS_R4 N n (laws_eqIntS_E4 kX kO) a0 b1 i5 = laws_eqIntS_l4 N (laws_eqIntS_X4 kX) n a0 b1 i5
  | 0, _, _, _ => rfl
  | m + 1, a0, b1, i5 => by
    have hrec : laws_eqIntS_R4 N m (laws_eqIntS_E4 kX kO) = (laws_eqIntS_l4 N (laws_eqIntS_X4 kX) m) := (funext fun a0 => (funext fun b1 => (funext fun i5 => laws_eqIntS_iter4 N kX kO m a0 b1 i5)))
    refine (laws_eqIntS_step4 N m kX kO a0 b1 i5).trans ?_
    rw [hrec]
    rfl
noncomputable abbrev laws_eqIntS_K4 (N : Nat) : Ex → St → Option (Bool × Unit) := (blockK 0 (seqK ((A_laws_eqIntS).shape 17) (run (A_laws_eqIntS) N (codeAt Try.f7 [1, 1, 1])) laws_eqIntS_z))
noncomputable abbrev laws_eqIntS_k4 (N : Nat) : St → Option (Bool × Unit) := fun st' => run (A_laws_eqIntS) N (codeAt Try.f7 [1, 1, 1]) st' laws_eqIntS_z
theorem laws_eqIntS_after4 (N : Nat) : laws_eqIntS_X4 (laws_eqIntS_k4 N) = laws_eqIntS_a4 := by kernel_rfl
theorem laws_eqIntS_in4 (N : Nat) (a0 : (List Int)) (b1 : (List Int)) (i5 : Int) : laws_eqIntS_R4 N N (laws_eqIntS_K4 N) a0 b1 i5 = laws_eqIntS_F4 N a0 b1 i5 :=
  have h : laws_eqIntS_X4 (laws_eqIntS_k4 N) = (laws_eqIntS_a4) := laws_eqIntS_after4 N
  ((iter_ex (fun st => by kernel_rfl) (fun st => by kernel_rfl)).trans (laws_eqIntS_iter4 N (laws_eqIntS_k4 N) (fun j st => (laws_eqIntS_K4 N) (.exit j) st) N a0 b1 i5)).trans (congrArg (fun k => laws_eqIntS_l4 N k N a0 b1 i5) h)
theorem run0_laws_eqIntS (N : Nat) (x : (S_laws_eqIntS).a.den) : runF (A_laws_eqIntS) N Try.f7 S_laws_eqIntS x = (laws_eqIntS_s (laws_eqIntS_R4 N N (laws_eqIntS_K4 N)) x.1 x.2.1) := by kernel_rfl
theorem run_laws_eqIntS (N : Nat) (x : (S_laws_eqIntS).a.den) : runF (A_laws_eqIntS) N Try.f7 S_laws_eqIntS x = laws_eqIntS N x.1 x.2.1 := by
  refine (run0_laws_eqIntS N x).trans ?_
  rw [(funext fun a0 => (funext fun b1 => (funext fun i5 => laws_eqIntS_in4 N a0 b1 i5)))]
  rfl
theorem fn_laws_eqIntS : FnOk Try.prog 7 := ⟨_, Try.func7, by kernel_rfl, by kernel_rfl⟩
theorem good_laws_eqIntS : Gx.Good Try.prog 7 S_laws_eqIntS := good_of_run Try.func7 (of_decide_eq_true (by kernel_rfl)) fun x r h => ⟨A_laws_eqIntS, big, mkCfg_ok tabOk, mkCfg_sigs (show SigsOk Try.prog [] from trivial), (run_laws_eqIntS big x).trans h⟩

/-! laws_FnExactWordText -/
def laws_FnExactWordText_s (aW_0 : (List Int)) : Option (Bool × Unit) :=
  cond (decide ((1048576 : Int) < (aW_0.length : Int)))
  (some (true, (())))
  ((laws_toIntS big aW_0).bind fun rq1 =>
  (spec_WordText rq1.1).bind fun rq2 =>
  (laws_toIntS big aW_0).bind fun rq3 =>
  (impl_WordText rq3.1).bind fun rq4 =>
  cond (decide (rq4.1.1 ≠ rq2.1.1))
  (some (false, (())))
  (cond (rq4.1.2.1 != rq2.1.2.1)
  (some (false, (())))
  ((laws_toIntS big aW_0).bind fun rq5 =>
  (laws_eqIntS big rq3.1 rq5.1).bind fun rq6 =>
  cond (!rq6.1)
  (some (false, (())))
  (some (true, (()))))))
def laws_FnExactWordText (aW_0 : (List Int)) : Option (Bool × Unit) := laws_FnExactWordText_s aW_0
def S_laws_FnExactWordText : Sig := { a := (.pair (.sl I) .unit), md := [0], mf := [], m := .unit, r := .bool, rf := .i, f := fun x => laws_FnExactWordText x.1 }
def A_laws_FnExactWordText : Cfg := mkCfg tab [(5, S_laws_toIntS), (4, S_spec_WordText), (6, S_impl_WordText), (7, S_laws_eqIntS)] []
theorem run_laws_FnExactWordText (N : Nat) (x : (S_laws_FnExactWordText).a.den) : runF (A_laws_FnExactWordText) N Try.f3 S_laws_FnExactWordText x = laws_FnExactWordText x.1 := by kernel_rfl
theorem fn_laws_FnExactWordText : FnOk Try.prog 3 := ⟨_, Try.func3, by kernel_rfl, by kernel_rfl⟩
theorem good_laws_FnExactWordText : Gx.Good Try.prog 3 S_laws_FnExactWordText := good_of_run Try.func3 (of_decide_eq_true (by kernel_rfl)) fun x r h => ⟨A_laws_FnExactWordText, big, mkCfg_ok tabOk, mkCfg_sigs (show SigsOk Try.prog [(5, S_laws_toIntS), (4, S_spec_WordText), (6, S_impl_WordText), (7, S_laws_eqIntS)] from ⟨⟨fn_laws_toIntS, good_laws_toIntS⟩, ⟨fn_spec_WordText, good_spec_WordText⟩, ⟨fn_impl_WordText, good_impl_WordText⟩, ⟨fn_laws_eqIntS, good_laws_eqIntS⟩, trivial⟩), (run_laws_FnExactWordText big x).trans h⟩
end
end Go.Proofs.Ytmpeokbbmicdgaa
