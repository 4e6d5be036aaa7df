import Derived.Test.YtbegnofapodldaaGxGen
import Derived.Test.YtbegnofapodldaaRows
import Derived.Test.YtbegnofapodldaaChecked
import Derived.KernelRfl
set_option maxRecDepth 100000
set_option linter.unusedVariables false
namespace Go.Proofs.Ytbegnofapodldaa
open Go Go.Gx Go.Proofs

abbrev I := Ty.int .i64
def tab : Tab := { es := [(22, I, .i), (28, (.sl I), (.o .i))], ts := [(3, I, .i), (4, .bool, .i), (22, (.sl I), (.o .i)), (28, (.sl (.sl I)), (.o (.o .i)))], fs := [], ars := [] }
theorem tabOk : tab.chk Try.prog = true := by kernel_rfl

/-! laws_toIntS -/
def laws_toIntS_b3 (rec : (List Int) → (List Int) → Int → Option ((List Int) × Unit)) (k : (List Int) → Option ((List Int) × Unit)) (a0 : (List Int)) (out3 : (List Int)) (i4 : Int) : Option ((List Int) × Unit) :=
  cond (decide (i4 < (a0.length : Int)))
  ((atI a0 i4).bind fun xq3 =>
  (atI out3 i4).bind fun _ =>
  (out3[i4.toNat]?).bind fun xq4 =>
  rec a0 (out3.set i4.toNat xq3) (IntKind.i64.wrap (i4 + (1 : Int))))
  (k out3)
def laws_toIntS_a3 (out3 : (List Int)) : Option ((List Int) × Unit) :=
  some (out3, (()))
def laws_toIntS_s (L3 : (List Int) → (List Int) → Int → Option ((List Int) × Unit)) (a_0 : (List Int)) : Option ((List Int) × Unit) :=
  (mkI (0 : Int) (a_0.length : Int)).bind fun xq1 => (mkI (0 : Int) (a_0.length : Int)).bind fun xq2 => cond (decide ((a_0.length : Int) ≤ (a_0.length : Int)))
  (L3 a_0 xq2 (0 : Int))
  none
def laws_toIntS_l3 (N : Nat) (k : (List Int) → Option ((List Int) × Unit)) : Nat → (List Int) → (List Int) → Int → Option ((List Int) × Unit)
  | 0, _, _, _ => none
  | m + 1, a0, out3, i4 => laws_toIntS_b3 (laws_toIntS_l3 N k m) k a0 out3 i4
def laws_toIntS_F3 (N : Nat) (a0 : (List Int)) (out3 : (List Int)) (i4 : Int) : Option ((List Int) × Unit) := laws_toIntS_l3 N (laws_toIntS_a3) N a0 out3 i4
def laws_toIntS (N : Nat) (a_0 : (List Int)) : Option ((List Int) × Unit) := laws_toIntS_s (laws_toIntS_F3 N) a_0
def S_laws_toIntS : Sig := { a := (.pair (.sl I) .unit), md := [0], mf := [], m := .unit, r := (.sl I), rf := (.o .i), f := fun x => laws_toIntS big x.1 }
def A_laws_toIntS : Cfg := mkCfg tab [] [(6, [.as (.sl I) .i, .drop, .drop, .as (.sl I) (.o .i), .as I .i]), (13, [.drop, .drop, .drop, .as (.sl I) (.o .i)])]
def laws_toIntS_R3 (cd : Code) (N n : Nat) (K : Ex → St → Option ((List Int) × Unit)) (a0 : (List Int)) (out3 : (List Int)) (i4 : Int) : Option ((List Int) × Unit) := iter ((A_laws_toIntS).shape 6) (run (A_laws_toIntS) N cd) n ([.val (.sl I) .i a0, .u, .u, .val (.sl I) (.o .i) out3, .val I .i i4] ++ List.replicate 17 .u) K
theorem laws_toIntS_step3 (N : Nat) (m : Nat) (kX : St → Option ((List Int) × Unit)) (kO : Nat → St → Option ((List Int) × Unit)) (a0 : (List Int)) (out3 : (List Int)) (i4 : Int) : laws_toIntS_R3 (codeAt Try.f16 [1, 1, 0, 1, 0, 0]) N (m + 1) (exK (finish (A_laws_toIntS) S_laws_toIntS Try.f16.results.toList) 0 ((A_laws_toIntS).shape 13) kX kO) a0 out3 i4 = laws_toIntS_b3 (laws_toIntS_R3 (codeAt Try.f16 [1, 1, 0, 1, 0, 0]) N m (exK (finish (A_laws_toIntS) S_laws_toIntS Try.f16.results.toList) 0 ((A_laws_toIntS).shape 13) kX kO)) (fun (out3 : (List Int)) => kX ([.u, .u, .u, .val (.sl I) (.o .i) out3] ++ List.replicate 18 .u)) a0 out3 i4 := by kernel_rfl
theorem laws_toIntS_iter3 (N : Nat) (kX : St → Option ((List Int) × Unit)) (kO : Nat → St → Option ((List Int) × Unit)) : ∀ (n : Nat) (a0 : (List Int)) (out3 : (List Int)) (i4 : Int), laws_toIntS_R3 (codeAt Try.f16 [1, 1, 0, 1, 0, 0]) N n (exK (finish (A_laws_toIntS) S_laws_toIntS Try.f16.results.toList) 0 ((A_laws_toIntS).shape 13) kX kO) a0 out3 i4 = laws_toIntS_l3 N (fun (out3 : (List Int)) => kX ([.u, .u, .u, .val (.sl I) (.o .i) out3] ++ List.replicate 18 .u)) n a0 out3 i4
  | 0, _, _, _ => rfl
  | m + 1, a0, out3, i4 => by
    have hrec : laws_toIntS_R3 (codeAt Try.f16 [1, 1, 0, 1, 0, 0]) N m (exK (finish (A_laws_toIntS) S_laws_toIntS Try.f16.results.toList) 0 ((A_laws_toIntS).shape 13) kX kO) = (laws_toIntS_l3 N (fun (out3 : (List Int)) => kX ([.u, .u, .u, .val (.sl I) (.o .i) out3] ++ List.replicate 18 .u)) m) := (funext fun a0 => (funext fun out3 => (funext fun i4 => laws_toIntS_iter3 N kX kO m a0 out3 i4)))
    refine (laws_toIntS_step3 N m kX kO a0 out3 i4).trans ?_
    rw [hrec]
    rfl
theorem laws_toIntS_after3 (N : Nat) (out3 : (List Int)) : (fun st' => run (A_laws_toIntS) N (codeAt Try.f16 [1, 1, 1]) st' (finish (A_laws_toIntS) S_laws_toIntS Try.f16.results.toList)) ([.u, .u, .u, .val (.sl I) (.o .i) out3] ++ List.replicate 18 .u) = laws_toIntS_a3 out3 := by kernel_rfl
theorem laws_toIntS_in3 (N : Nat) (a0 : (List Int)) (out3 : (List Int)) (i4 : Int) : laws_toIntS_R3 (codeAt Try.f16 [1, 1, 0, 1, 0, 0]) N N (blockK 0 (seqK ((A_laws_toIntS).shape 13) (run (A_laws_toIntS) N (codeAt Try.f16 [1, 1, 1])) (finish (A_laws_toIntS) S_laws_toIntS Try.f16.results.toList))) a0 out3 i4 = laws_toIntS_F3 N a0 out3 i4 :=
  have h : (fun (out3 : (List Int)) => (fun st' => run (A_laws_toIntS) N (codeAt Try.f16 [1, 1, 1]) st' (finish (A_laws_toIntS) S_laws_toIntS Try.f16.results.toList)) ([.u, .u, .u, .val (.sl I) (.o .i) out3] ++ List.replicate 18 .u)) = (laws_toIntS_a3) := (funext fun out3 => laws_toIntS_after3 N out3)
  have e : laws_toIntS_R3 (codeAt Try.f16 [1, 1, 0, 1, 0, 0]) N N (blockK 0 (seqK ((A_laws_toIntS).shape 13) (run (A_laws_toIntS) N (codeAt Try.f16 [1, 1, 1])) (finish (A_laws_toIntS) S_laws_toIntS Try.f16.results.toList))) a0 out3 i4 = laws_toIntS_R3 (codeAt Try.f16 [1, 1, 0, 1, 0, 0]) N N (exK (finish (A_laws_toIntS) S_laws_toIntS Try.f16.results.toList) 0 ((A_laws_toIntS).shape 13) (fun st' => run (A_laws_toIntS) N (codeAt Try.f16 [1, 1, 1]) st' (finish (A_laws_toIntS) S_laws_toIntS Try.f16.results.toList)) (fun j st => (blockK 0 (seqK ((A_laws_toIntS).shape 13) (run (A_laws_toIntS) N (codeAt Try.f16 [1, 1, 1])) (finish (A_laws_toIntS) S_laws_toIntS Try.f16.results.toList))) (.exit j) st)) a0 out3 i4 := iter_ex (fun st => by kernel_rfl) (fun st => by kernel_rfl)
  (e.trans (laws_toIntS_iter3 N (fun st' => run (A_laws_toIntS) N (codeAt Try.f16 [1, 1, 1]) st' (finish (A_laws_toIntS) S_laws_toIntS Try.f16.results.toList)) (fun j st => (blockK 0 (seqK ((A_laws_toIntS).shape 13) (run (A_laws_toIntS) N (codeAt Try.f16 [1, 1, 1])) (finish (A_laws_toIntS) S_laws_toIntS Try.f16.results.toList))) (.exit j) st) N a0 out3 i4)).trans (congrArg (fun k => laws_toIntS_l3 N k N a0 out3 i4) h)
theorem run0_laws_toIntS (N : Nat) (x : (S_laws_toIntS).a.den) : runF (A_laws_toIntS) N Try.f16 S_laws_toIntS x = (laws_toIntS_s (laws_toIntS_R3 (codeAt Try.f16 [1, 1, 0, 1, 0, 0]) N N (blockK 0 (seqK ((A_laws_toIntS).shape 13) (run (A_laws_toIntS) N (codeAt Try.f16 [1, 1, 1])) (finish (A_laws_toIntS) S_laws_toIntS Try.f16.results.toList)))) x.1) := by kernel_rfl
theorem run_laws_toIntS (N : Nat) (x : (S_laws_toIntS).a.den) : runF (A_laws_toIntS) N Try.f16 S_laws_toIntS x = laws_toIntS N x.1 := by
  refine (run0_laws_toIntS N x).trans ?_
  rw [(funext fun a0 => (funext fun out3 => (funext fun i4 => laws_toIntS_in3 N a0 out3 i4)))]
  rfl
theorem fn_laws_toIntS : FnOk Try.prog 16 := ⟨_, Try.func16, by kernel_rfl, by kernel_rfl⟩
theorem good_laws_toIntS : Gx.Good Try.prog 16 S_laws_toIntS := good_of_run Try.func16 (of_decide_eq_true (by kernel_rfl)) fun x r h => ⟨A_laws_toIntS, big, mkCfg_ok tabOk, mkCfg_sigs (show SigsOk Try.prog [] from trivial), (run_laws_toIntS big x).trans h⟩

/-! spec_l1In -/
def spec_l1In_s (x_0 : Int) (a_1 : Int) (b_2 : Int) : Option (Bool × Unit) :=
  cond (decide (a_1 ≤ x_0))
  (some (decide (x_0 ≤ b_2), (())))
  (some (false, (())))
def spec_l1In (x_0 : Int) (a_1 : Int) (b_2 : Int) : Option (Bool × Unit) := spec_l1In_s x_0 a_1 b_2
def S_spec_l1In : Sig := { a := (.pair I (.pair I (.pair I .unit))), md := [0, 0, 0], mf := [], m := .unit, r := .bool, rf := .i, f := fun x => spec_l1In x.1 x.2.1 x.2.2.1 }
def A_spec_l1In : Cfg := mkCfg tab [] []
theorem run_spec_l1In (N : Nat) (x : (S_spec_l1In).a.den) : runF (A_spec_l1In) N Try.f59 S_spec_l1In x = spec_l1In x.1 x.2.1 x.2.2.1 := by kernel_rfl
theorem fn_spec_l1In : FnOk Try.prog 59 := ⟨_, Try.func59, by kernel_rfl, by kernel_rfl⟩
theorem good_spec_l1In : Gx.Good Try.prog 59 S_spec_l1In := good_of_run Try.func59 (of_decide_eq_true (by kernel_rfl)) fun x r h => ⟨A_spec_l1In, big, mkCfg_ok tabOk, mkCfg_sigs (show SigsOk Try.prog [] from trivial), (run_spec_l1In big x).trans h⟩

/-! spec_l28End -/
def spec_l28End_b3 (rec : (List Int) → Int → Int → Option (Int × Unit)) (k : Option (Int × Unit)) (w0 : (List Int)) (open5 : Int) (i6 : Int) : Option (Int × Unit) :=
  cond (decide (i6 < (w0.length : Int)))
  ((atI w0 i6).bind fun xq1 =>
  cond (decide (xq1 = (-1 : Int)))
  (cond (decide ((IntKind.i64.wrap (open5 + (1 : Int))) = (0 : Int)))
  (some (IntKind.i64.wrap (i6 + (1 : Int)), (())))
  (rec w0 (IntKind.i64.wrap (open5 + (1 : Int))) (IntKind.i64.wrap (i6 + (1 : Int)))))
  ((atI w0 i6).bind fun xq2 =>
  cond (decide (xq2 = (-2 : Int)))
  (cond (decide ((IntKind.i64.wrap (open5 + (1 : Int))) = (0 : Int)))
  (some (IntKind.i64.wrap (i6 + (1 : Int)), (())))
  (rec w0 (IntKind.i64.wrap (open5 + (1 : Int))) (IntKind.i64.wrap (i6 + (1 : Int)))))
  ((atI w0 i6).bind fun xq3 =>
  (spec_l1In xq3 (0 : Int) (4 : Int)).bind fun rq4 =>
  cond rq4.1
  (cond (decide ((IntKind.i64.wrap (open5 - (1 : Int))) = (0 : Int)))
  (some (IntKind.i64.wrap (i6 + (1 : Int)), (())))
  (rec w0 (IntKind.i64.wrap (open5 - (1 : Int))) (IntKind.i64.wrap (i6 + (1 : Int)))))
  (some ((-1 : Int), (()))))))
  (k)
def spec_l28End_a3 : Option (Int × Unit) :=
  some ((-1 : Int), (()))
def spec_l28End_s (L3 : (List Int) → Int → Int → Option (Int × Unit)) (w_0 : (List Int)) (from_1 : Int) : Option (Int × Unit) :=
  L3 w_0 (1 : Int) from_1
def spec_l28End_l3 (N : Nat) (k : Option (Int × Unit)) : Nat → (List Int) → Int → Int → Option (Int × Unit)
  | 0, _, _, _ => none
  | m + 1, w0, open5, i6 => spec_l28End_b3 (spec_l28End_l3 N k m) k w0 open5 i6
def spec_l28End_F3 (N : Nat) (w0 : (List Int)) (open5 : Int) (i6 : Int) : Option (Int × Unit) := spec_l28End_l3 N (spec_l28End_a3) N w0 open5 i6
def spec_l28End (N : Nat) (w_0 : (List Int)) (from_1 : Int) : Option (Int × Unit) := spec_l28End_s (spec_l28End_F3 N) w_0 from_1
def S_spec_l28End : Sig := { a := (.pair (.sl I) (.pair I .unit)), md := [0, 0], mf := [], m := .unit, r := I, rf := .i, f := fun x => spec_l28End big x.1 x.2.1 }
def A_spec_l28End : Cfg := mkCfg tab [(59, S_spec_l1In)] [(6, [.as (.sl I) .i, .drop, .drop, .drop, .drop, .as I .i, .as I .i]), (25, [])]
def spec_l28End_R3 (cd : Code) (N n : Nat) (K : Ex → St → Option (Int × Unit)) (w0 : (List Int)) (open5 : Int) (i6 : Int) : Option (Int × Unit) := iter ((A_spec_l28End).shape 6) (run (A_spec_l28End) N cd) n ([.val (.sl I) .i w0, .u, .u, .u, .u, .val I .i open5, .val I .i i6] ++ List.replicate 34 .u) K
theorem spec_l28End_step3 (N : Nat) (m : Nat) (kX : St → Option (Int × Unit)) (kO : Nat → St → Option (Int × Unit)) (w0 : (List Int)) (open5 : Int) (i6 : Int) : spec_l28End_R3 (codeAt Try.f115 [1, 1, 0, 1, 0, 0]) N (m + 1) (exK (finish (A_spec_l28End) S_spec_l28End Try.f115.results.toList) 0 ((A_spec_l28End).shape 25) kX kO) w0 open5 i6 = spec_l28End_b3 (spec_l28End_R3 (codeAt Try.f115 [1, 1, 0, 1, 0, 0]) N m (exK (finish (A_spec_l28End) S_spec_l28End Try.f115.results.toList) 0 ((A_spec_l28End).shape 25) kX kO)) (kX ([] ++ List.replicate 41 .u)) w0 open5 i6 := by kernel_rfl
theorem spec_l28End_iter3 (N : Nat) (kX : St → Option (Int × Unit)) (kO : Nat → St → Option (Int × Unit)) : ∀ (n : Nat) (w0 : (List Int)) (open5 : Int) (i6 : Int), spec_l28End_R3 (codeAt Try.f115 [1, 1, 0, 1, 0, 0]) N n (exK (finish (A_spec_l28End) S_spec_l28End Try.f115.results.toList) 0 ((A_spec_l28End).shape 25) kX kO) w0 open5 i6 = spec_l28End_l3 N (kX ([] ++ List.replicate 41 .u)) n w0 open5 i6
  | 0, _, _, _ => rfl
  | m + 1, w0, open5, i6 => by
    have hrec : spec_l28End_R3 (codeAt Try.f115 [1, 1, 0, 1, 0, 0]) N m (exK (finish (A_spec_l28End) S_spec_l28End Try.f115.results.toList) 0 ((A_spec_l28End).shape 25) kX kO) = (spec_l28End_l3 N (kX ([] ++ List.replicate 41 .u)) m) := (funext fun w0 => (funext fun open5 => (funext fun i6 => spec_l28End_iter3 N kX kO m w0 open5 i6)))
    refine (spec_l28End_step3 N m kX kO w0 open5 i6).trans ?_
    rw [hrec]
    rfl
theorem spec_l28End_after3 (N : Nat) : (fun st' => run (A_spec_l28End) N (codeAt Try.f115 [1, 1, 1]) st' (finish (A_spec_l28End) S_spec_l28End Try.f115.results.toList)) ([] ++ List.replicate 41 .u) = spec_l28End_a3 := by kernel_rfl
theorem spec_l28End_in3 (N : Nat) (w0 : (List Int)) (open5 : Int) (i6 : Int) : spec_l28End_R3 (codeAt Try.f115 [1, 1, 0, 1, 0, 0]) N N (blockK 0 (seqK ((A_spec_l28End).shape 25) (run (A_spec_l28End) N (codeAt Try.f115 [1, 1, 1])) (finish (A_spec_l28End) S_spec_l28End Try.f115.results.toList))) w0 open5 i6 = spec_l28End_F3 N w0 open5 i6 :=
  have h : ((fun st' => run (A_spec_l28End) N (codeAt Try.f115 [1, 1, 1]) st' (finish (A_spec_l28End) S_spec_l28End Try.f115.results.toList)) ([] ++ List.replicate 41 .u)) = (spec_l28End_a3) := spec_l28End_after3 N
  have e : spec_l28End_R3 (codeAt Try.f115 [1, 1, 0, 1, 0, 0]) N N (blockK 0 (seqK ((A_spec_l28End).shape 25) (run (A_spec_l28End) N (codeAt Try.f115 [1, 1, 1])) (finish (A_spec_l28End) S_spec_l28End Try.f115.results.toList))) w0 open5 i6 = spec_l28End_R3 (codeAt Try.f115 [1, 1, 0, 1, 0, 0]) N N (exK (finish (A_spec_l28End) S_spec_l28End Try.f115.results.toList) 0 ((A_spec_l28End).shape 25) (fun st' => run (A_spec_l28End) N (codeAt Try.f115 [1, 1, 1]) st' (finish (A_spec_l28End) S_spec_l28End Try.f115.results.toList)) (fun j st => (blockK 0 (seqK ((A_spec_l28End).shape 25) (run (A_spec_l28End) N (codeAt Try.f115 [1, 1, 1])) (finish (A_spec_l28End) S_spec_l28End Try.f115.results.toList))) (.exit j) st)) w0 open5 i6 := iter_ex (fun st => by kernel_rfl) (fun st => by kernel_rfl)
  (e.trans (spec_l28End_iter3 N (fun st' => run (A_spec_l28End) N (codeAt Try.f115 [1, 1, 1]) st' (finish (A_spec_l28End) S_spec_l28End Try.f115.results.toList)) (fun j st => (blockK 0 (seqK ((A_spec_l28End).shape 25) (run (A_spec_l28End) N (codeAt Try.f115 [1, 1, 1])) (finish (A_spec_l28End) S_spec_l28End Try.f115.results.toList))) (.exit j) st) N w0 open5 i6)).trans (congrArg (fun k => spec_l28End_l3 N k N w0 open5 i6) h)
theorem run0_spec_l28End (N : Nat) (x : (S_spec_l28End).a.den) : runF (A_spec_l28End) N Try.f115 S_spec_l28End x = (spec_l28End_s (spec_l28End_R3 (codeAt Try.f115 [1, 1, 0, 1, 0, 0]) N N (blockK 0 (seqK ((A_spec_l28End).shape 25) (run (A_spec_l28End) N (codeAt Try.f115 [1, 1, 1])) (finish (A_spec_l28End) S_spec_l28End Try.f115.results.toList)))) x.1 x.2.1) := by kernel_rfl
theorem run_spec_l28End (N : Nat) (x : (S_spec_l28End).a.den) : runF (A_spec_l28End) N Try.f115 S_spec_l28End x = spec_l28End N x.1 x.2.1 := by
  refine (run0_spec_l28End N x).trans ?_
  rw [(funext fun w0 => (funext fun open5 => (funext fun i6 => spec_l28End_in3 N w0 open5 i6)))]
  rfl
theorem fn_spec_l28End : FnOk Try.prog 115 := ⟨_, Try.func115, by kernel_rfl, by kernel_rfl⟩
theorem good_spec_l28End : Gx.Good Try.prog 115 S_spec_l28End := good_of_run Try.func115 (of_decide_eq_true (by kernel_rfl)) fun x r h => ⟨A_spec_l28End, big, mkCfg_ok tabOk, mkCfg_sigs (show SigsOk Try.prog [(59, S_spec_l1In)] from ⟨⟨fn_spec_l1In, good_spec_l1In⟩, trivial⟩), (run_spec_l28End big x).trans h⟩

/-! spec_l28Good -/
def spec_l28Good_s (w_0 : (List Int)) : Option (Bool × Unit) :=
  cond (decide ((w_0.length : Int) ≤ (40 : Int)))
  ((spec_l28End big w_0 (0 : Int)).bind fun rq1 =>
  cond (decide (rq1.1 = (w_0.length : Int)))
  (some (decide ((0 : Int) < (w_0.length : Int)), (())))
  (some (false, (()))))
  (some (false, (())))
def spec_l28Good (w_0 : (List Int)) : Option (Bool × Unit) := spec_l28Good_s w_0
def S_spec_l28Good : Sig := { a := (.pair (.sl I) .unit), md := [0], mf := [], m := .unit, r := .bool, rf := .i, f := fun x => spec_l28Good x.1 }
def A_spec_l28Good : Cfg := mkCfg tab [(115, S_spec_l28End)] []
theorem run_spec_l28Good (N : Nat) (x : (S_spec_l28Good).a.den) : runF (A_spec_l28Good) N Try.f55 S_spec_l28Good x = spec_l28Good x.1 := by kernel_rfl
theorem fn_spec_l28Good : FnOk Try.prog 55 := ⟨_, Try.func55, by kernel_rfl, by kernel_rfl⟩
theorem good_spec_l28Good : Gx.Good Try.prog 55 S_spec_l28Good := good_of_run Try.func55 (of_decide_eq_true (by kernel_rfl)) fun x r h => ⟨A_spec_l28Good, big, mkCfg_ok tabOk, mkCfg_sigs (show SigsOk Try.prog [(115, S_spec_l28End)] from ⟨⟨fn_spec_l28End, good_spec_l28End⟩, trivial⟩), (run_spec_l28Good big x).trans h⟩

/-! spec_l1Own -/
def spec_l1Own_s (l_0 : (List Int)) : Option ((List Int) × Unit) :=
  (appI [] l_0).bind fun xq1 =>
  some (xq1, (()))
def spec_l1Own (l_0 : (List Int)) : Option ((List Int) × Unit) := spec_l1Own_s l_0
def S_spec_l1Own : Sig := { a := (.pair (.sl I) .unit), md := [0], mf := [], m := .unit, r := (.sl I), rf := (.o .i), f := fun x => spec_l1Own x.1 }
def A_spec_l1Own : Cfg := mkCfg tab [] []
theorem run_spec_l1Own (N : Nat) (x : (S_spec_l1Own).a.den) : runF (A_spec_l1Own) N Try.f63 S_spec_l1Own x = spec_l1Own x.1 := by kernel_rfl
theorem fn_spec_l1Own : FnOk Try.prog 63 := ⟨_, Try.func63, by kernel_rfl, by kernel_rfl⟩
theorem good_spec_l1Own : Gx.Good Try.prog 63 S_spec_l1Own := good_of_run Try.func63 (of_decide_eq_true (by kernel_rfl)) fun x r h => ⟨A_spec_l1Own, big, mkCfg_ok tabOk, mkCfg_sigs (show SigsOk Try.prog [] from trivial), (run_spec_l1Own big x).trans h⟩

/-! spec_l28Parts -/
def spec_l28Parts_s (w_0 : (List Int)) : Option (((List Int) × ((List Int) × Unit)) × Unit) :=
  (spec_l28End big w_0 (1 : Int)).bind fun rq1 =>
  (slI w_0 (1 : Int) rq1.1).bind fun xq2 =>
  (slI w_0 rq1.1 w_0.length).bind fun xq3 =>
  some ((xq2, xq3, ()), (()))
def spec_l28Parts (w_0 : (List Int)) : Option (((List Int) × ((List Int) × Unit)) × Unit) := spec_l28Parts_s w_0
def S_spec_l28Parts : Sig := { a := (.pair (.sl I) .unit), md := [0], mf := [], m := .unit, r := (.tup (.pair (.sl I) (.pair (.sl I) .unit))), rf := .i, f := fun x => spec_l28Parts x.1 }
def A_spec_l28Parts : Cfg := mkCfg tab [(115, S_spec_l28End)] []
theorem run_spec_l28Parts (N : Nat) (x : (S_spec_l28Parts).a.den) : runF (A_spec_l28Parts) N Try.f116 S_spec_l28Parts x = spec_l28Parts x.1 := by kernel_rfl
theorem fn_spec_l28Parts : FnOk Try.prog 116 := ⟨_, Try.func116, by kernel_rfl, by kernel_rfl⟩
theorem good_spec_l28Parts : Gx.Good Try.prog 116 S_spec_l28Parts := good_of_run Try.func116 (of_decide_eq_true (by kernel_rfl)) fun x r h => ⟨A_spec_l28Parts, big, mkCfg_ok tabOk, mkCfg_sigs (show SigsOk Try.prog [(115, S_spec_l28End)] from ⟨⟨fn_spec_l28End, good_spec_l28End⟩, trivial⟩), (run_spec_l28Parts big x).trans h⟩

/-! types of spec_l28Members -/
def T_spec_l28Members (self : ((List Int) × (Int × Unit)) → Option ((List (List Int)) × Unit)) : Sig := { a := (.pair (.sl I) (.pair I .unit)), md := [0, 0], mf := [], m := .unit, r := (.sl (.sl I)), rf := (.o (.o .i)), f := self }

/-! spec_l28Members -/
def spec_l28Members_s (self_spec_l28Members : ((List Int) × (Int × Unit)) → Option ((List (List Int)) × Unit)) (w_0 : (List Int)) (sign_1 : Int) : Option ((List (List Int)) × Unit) :=
  (atI w_0 (0 : Int)).bind fun xq1 =>
  cond (decide (xq1 ≠ sign_1))
  ((spec_l1Own w_0).bind fun rq2 =>
  some ([rq2.1], (())))
  ((spec_l28Parts w_0).bind fun rq3 =>
  (self_spec_l28Members (rq3.1.1, sign_1, ())).bind fun rq4 =>
  (self_spec_l28Members (rq3.1.2.1, sign_1, ())).bind fun rq5 =>
  (appI rq4.1 rq5.1).bind fun xq6 =>
  some (xq6, (())))
def spec_l28Members (self_spec_l28Members : ((List Int) × (Int × Unit)) → Option ((List (List Int)) × Unit)) (w_0 : (List Int)) (sign_1 : Int) : Option ((List (List Int)) × Unit) := spec_l28Members_s self_spec_l28Members w_0 sign_1
def A_spec_l28Members (self_spec_l28Members : ((List Int) × (Int × Unit)) → Option ((List (List Int)) × Unit)) : Cfg := mkCfg tab [(63, S_spec_l1Own), (116, S_spec_l28Parts), (64, T_spec_l28Members self_spec_l28Members)] []
theorem run_spec_l28Members (self_spec_l28Members : ((List Int) × (Int × Unit)) → Option ((List (List Int)) × Unit)) (N : Nat) (x : ((T_spec_l28Members self_spec_l28Members)).a.den) : runF (A_spec_l28Members self_spec_l28Members) N Try.f64 (T_spec_l28Members self_spec_l28Members) x = spec_l28Members self_spec_l28Members x.1 x.2.1 := by kernel_rfl
theorem fn_spec_l28Members : FnOk Try.prog 64 := ⟨_, Try.func64, by kernel_rfl, by kernel_rfl⟩

/-! recursion -/
def R_spec_l28Members : Nat → ((List Int) × (Int × Unit)) → Option ((List (List Int)) × Unit)
  | 0, _ => none
  | d + 1, x => spec_l28Members (R_spec_l28Members d) x.1 x.2.1
def S_spec_l28Members : Sig := T_spec_l28Members (R_spec_l28Members big)
theorem goodR_spec_l28Members : ∀ d, Gx.Good Try.prog 64 (T_spec_l28Members (R_spec_l28Members d))
  | 0 => fun x r h => by cases h
  | d + 1 => good_of_run Try.func64 (of_decide_eq_true (by kernel_rfl)) fun x r h => ⟨A_spec_l28Members (R_spec_l28Members d), big, mkCfg_ok tabOk, mkCfg_sigs (show SigsOk Try.prog [(63, S_spec_l1Own), (116, S_spec_l28Parts), (64, T_spec_l28Members (R_spec_l28Members d))] from ⟨⟨fn_spec_l1Own, good_spec_l1Own⟩, ⟨fn_spec_l28Parts, good_spec_l28Parts⟩, ⟨fn_spec_l28Members, goodR_spec_l28Members d⟩, trivial⟩), (run_spec_l28Members (R_spec_l28Members d) big x).trans h⟩
theorem good_spec_l28Members : Gx.Good Try.prog 64 S_spec_l28Members := goodR_spec_l28Members big

/-! spec_MembersOf -/
def spec_MembersOf_s (w_0 : (List Int)) : Option (((List (List Int)) × (Bool × Unit)) × Unit) :=
  (spec_l28Good w_0).bind fun rq1 =>
  cond (!rq1.1)
  (some (([], false, ()), (())))
  ((atI w_0 (0 : Int)).bind fun xq2 =>
  cond (decide ((0 : Int) ≤ xq2))
  ((spec_l1Own w_0).bind fun rq3 =>
  some (([rq3.1], true, ()), (())))
  ((atI w_0 (0 : Int)).bind fun xq4 =>
  (R_spec_l28Members big (w_0, xq4, ())).bind fun rq5 =>
  some ((rq5.1, true, ()), (()))))
def spec_MembersOf (w_0 : (List Int)) : Option (((List (List Int)) × (Bool × Unit)) × Unit) := spec_MembersOf_s w_0
def S_spec_MembersOf : Sig := { a := (.pair (.sl I) .unit), md := [0], mf := [], m := .unit, r := (.tup (.pair (.sl (.sl I)) (.pair .bool .unit))), rf := (.p (.o (.o .i)) .i), f := fun x => spec_MembersOf x.1 }
def A_spec_MembersOf : Cfg := mkCfg tab [(55, S_spec_l28Good), (63, S_spec_l1Own), (64, S_spec_l28Members)] []
theorem run_spec_MembersOf (N : Nat) (x : (S_spec_MembersOf).a.den) : runF (A_spec_MembersOf) N Try.f24 S_spec_MembersOf x = spec_MembersOf x.1 := by kernel_rfl
theorem fn_spec_MembersOf : FnOk Try.prog 24 := ⟨_, Try.func24, by kernel_rfl, by kernel_rfl⟩
theorem good_spec_MembersOf : Gx.Good Try.prog 24 S_spec_MembersOf := good_of_run Try.func24 (of_decide_eq_true (by kernel_rfl)) fun x r h => ⟨A_spec_MembersOf, big, mkCfg_ok tabOk, mkCfg_sigs (show SigsOk Try.prog [(55, S_spec_l28Good), (63, S_spec_l1Own), (64, S_spec_l28Members)] from ⟨⟨fn_spec_l28Good, good_spec_l28Good⟩, ⟨fn_spec_l1Own, good_spec_l1Own⟩, ⟨fn_spec_l28Members, good_spec_l28Members⟩, trivial⟩), (run_spec_MembersOf big x).trans h⟩

/-! impl_wordEnd -/
def impl_wordEnd_b2 (rec : (List Int) → Int → Int → Option (Int × Unit)) (k : Int → Option (Int × Unit)) (w0 : (List Int)) (at1 : Int) (need5 : Int) : Option (Int × Unit) :=
  cond (decide ((0 : Int) < need5))
  (cond (decide ((w0.length : Int) ≤ at1))
  (some ((-1 : Int), (())))
  ((atI w0 at1).bind fun xq1 =>
  cond (decide (xq1 < (-2 : Int)))
  (some ((-1 : Int), (())))
  ((atI w0 at1).bind fun xq2 =>
  cond (decide ((5 : Int) ≤ xq2))
  (some ((-1 : Int), (())))
  ((atI w0 at1).bind fun xq3 =>
  cond (decide ((0 : Int) ≤ xq3))
  (rec w0 (IntKind.i64.wrap (at1 + (1 : Int))) (IntKind.i64.wrap (need5 - (1 : Int))))
  (rec w0 (IntKind.i64.wrap (at1 + (1 : Int))) (IntKind.i64.wrap (need5 + (1 : Int))))))))
  (k at1)
def impl_wordEnd_a2 (at1 : Int) : Option (Int × Unit) :=
  some (at1, (()))
def impl_wordEnd_s (L2 : (List Int) → Int → Int → Option (Int × Unit)) (w_0 : (List Int)) (at_1 : Int) : Option (Int × Unit) :=
  L2 w_0 at_1 (1 : Int)
def impl_wordEnd_l2 (N : Nat) (k : Int → Option (Int × Unit)) : Nat → (List Int) → Int → Int → Option (Int × Unit)
  | 0, _, _, _ => none
  | m + 1, w0, at1, need5 => impl_wordEnd_b2 (impl_wordEnd_l2 N k m) k w0 at1 need5
def impl_wordEnd_F2 (N : Nat) (w0 : (List Int)) (at1 : Int) (need5 : Int) : Option (Int × Unit) := impl_wordEnd_l2 N (impl_wordEnd_a2) N w0 at1 need5
def impl_wordEnd (N : Nat) (w_0 : (List Int)) (at_1 : Int) : Option (Int × Unit) := impl_wordEnd_s (impl_wordEnd_F2 N) w_0 at_1
def S_impl_wordEnd : Sig := { a := (.pair (.sl I) (.pair I .unit)), md := [0, 0], mf := [], m := .unit, r := I, rf := .i, f := fun x => impl_wordEnd big x.1 x.2.1 }
def A_impl_wordEnd : Cfg := mkCfg tab [] [(4, [.as (.sl I) .i, .as I .i, .drop, .drop, .drop, .as I .i]), (19, [.drop, .as I .i])]
def impl_wordEnd_R2 (cd : Code) (N n : Nat) (K : Ex → St → Option (Int × Unit)) (w0 : (List Int)) (at1 : Int) (need5 : Int) : Option (Int × Unit) := iter ((A_impl_wordEnd).shape 4) (run (A_impl_wordEnd) N cd) n ([.val (.sl I) .i w0, .val I .i at1, .u, .u, .u, .val I .i need5] ++ List.replicate 32 .u) K
theorem impl_wordEnd_step2 (N : Nat) (m : Nat) (kX : St → Option (Int × Unit)) (kO : Nat → St → Option (Int × Unit)) (w0 : (List Int)) (at1 : Int) (need5 : Int) : impl_wordEnd_R2 (codeAt Try.f117 [1, 0, 1, 0, 0]) N (m + 1) (exK (finish (A_impl_wordEnd) S_impl_wordEnd Try.f117.results.toList) 0 ((A_impl_wordEnd).shape 19) kX kO) w0 at1 need5 = impl_wordEnd_b2 (impl_wordEnd_R2 (codeAt Try.f117 [1, 0, 1, 0, 0]) N m (exK (finish (A_impl_wordEnd) S_impl_wordEnd Try.f117.results.toList) 0 ((A_impl_wordEnd).shape 19) kX kO)) (fun (at1 : Int) => kX ([.u, .val I .i at1] ++ List.replicate 36 .u)) w0 at1 need5 := by kernel_rfl
theorem impl_wordEnd_iter2 (N : Nat) (kX : St → Option (Int × Unit)) (kO : Nat → St → Option (Int × Unit)) : ∀ (n : Nat) (w0 : (List Int)) (at1 : Int) (need5 : Int), impl_wordEnd_R2 (codeAt Try.f117 [1, 0, 1, 0, 0]) N n (exK (finish (A_impl_wordEnd) S_impl_wordEnd Try.f117.results.toList) 0 ((A_impl_wordEnd).shape 19) kX kO) w0 at1 need5 = impl_wordEnd_l2 N (fun (at1 : Int) => kX ([.u, .val I .i at1] ++ List.replicate 36 .u)) n w0 at1 need5
  | 0, _, _, _ => rfl
  | m + 1, w0, at1, need5 => by
    have hrec : impl_wordEnd_R2 (codeAt Try.f117 [1, 0, 1, 0, 0]) N m (exK (finish (A_impl_wordEnd) S_impl_wordEnd Try.f117.results.toList) 0 ((A_impl_wordEnd).shape 19) kX kO) = (impl_wordEnd_l2 N (fun (at1 : Int) => kX ([.u, .val I .i at1] ++ List.replicate 36 .u)) m) := (funext fun w0 => (funext fun at1 => (funext fun need5 => impl_wordEnd_iter2 N kX kO m w0 at1 need5)))
    refine (impl_wordEnd_step2 N m kX kO w0 at1 need5).trans ?_
    rw [hrec]
    rfl
theorem impl_wordEnd_after2 (N : Nat) (at1 : Int) : (fun st' => run (A_impl_wordEnd) N (codeAt Try.f117 [1, 1]) st' (finish (A_impl_wordEnd) S_impl_wordEnd Try.f117.results.toList)) ([.u, .val I .i at1] ++ List.replicate 36 .u) = impl_wordEnd_a2 at1 := by kernel_rfl
theorem impl_wordEnd_in2 (N : Nat) (w0 : (List Int)) (at1 : Int) (need5 : Int) : impl_wordEnd_R2 (codeAt Try.f117 [1, 0, 1, 0, 0]) N N (blockK 0 (seqK ((A_impl_wordEnd).shape 19) (run (A_impl_wordEnd) N (codeAt Try.f117 [1, 1])) (finish (A_impl_wordEnd) S_impl_wordEnd Try.f117.results.toList))) w0 at1 need5 = impl_wordEnd_F2 N w0 at1 need5 :=
  have h : (fun (at1 : Int) => (fun st' => run (A_impl_wordEnd) N (codeAt Try.f117 [1, 1]) st' (finish (A_impl_wordEnd) S_impl_wordEnd Try.f117.results.toList)) ([.u, .val I .i at1] ++ List.replicate 36 .u)) = (impl_wordEnd_a2) := (funext fun at1 => impl_wordEnd_after2 N at1)
  have e : impl_wordEnd_R2 (codeAt Try.f117 [1, 0, 1, 0, 0]) N N (blockK 0 (seqK ((A_impl_wordEnd).shape 19) (run (A_impl_wordEnd) N (codeAt Try.f117 [1, 1])) (finish (A_impl_wordEnd) S_impl_wordEnd Try.f117.results.toList))) w0 at1 need5 = impl_wordEnd_R2 (codeAt Try.f117 [1, 0, 1, 0, 0]) N N (exK (finish (A_impl_wordEnd) S_impl_wordEnd Try.f117.results.toList) 0 ((A_impl_wordEnd).shape 19) (fun st' => run (A_impl_wordEnd) N (codeAt Try.f117 [1, 1]) st' (finish (A_impl_wordEnd) S_impl_wordEnd Try.f117.results.toList)) (fun j st => (blockK 0 (seqK ((A_impl_wordEnd).shape 19) (run (A_impl_wordEnd) N (codeAt Try.f117 [1, 1])) (finish (A_impl_wordEnd) S_impl_wordEnd Try.f117.results.toList))) (.exit j) st)) w0 at1 need5 := iter_ex (fun st => by kernel_rfl) (fun st => by kernel_rfl)
  (e.trans (impl_wordEnd_iter2 N (fun st' => run (A_impl_wordEnd) N (codeAt Try.f117 [1, 1]) st' (finish (A_impl_wordEnd) S_impl_wordEnd Try.f117.results.toList)) (fun j st => (blockK 0 (seqK ((A_impl_wordEnd).shape 19) (run (A_impl_wordEnd) N (codeAt Try.f117 [1, 1])) (finish (A_impl_wordEnd) S_impl_wordEnd Try.f117.results.toList))) (.exit j) st) N w0 at1 need5)).trans (congrArg (fun k => impl_wordEnd_l2 N k N w0 at1 need5) h)
theorem run0_impl_wordEnd (N : Nat) (x : (S_impl_wordEnd).a.den) : runF (A_impl_wordEnd) N Try.f117 S_impl_wordEnd x = (impl_wordEnd_s (impl_wordEnd_R2 (codeAt Try.f117 [1, 0, 1, 0, 0]) N N (blockK 0 (seqK ((A_impl_wordEnd).shape 19) (run (A_impl_wordEnd) N (codeAt Try.f117 [1, 1])) (finish (A_impl_wordEnd) S_impl_wordEnd Try.f117.results.toList)))) x.1 x.2.1) := by kernel_rfl
theorem run_impl_wordEnd (N : Nat) (x : (S_impl_wordEnd).a.den) : runF (A_impl_wordEnd) N Try.f117 S_impl_wordEnd x = impl_wordEnd N x.1 x.2.1 := by
  refine (run0_impl_wordEnd N x).trans ?_
  rw [(funext fun w0 => (funext fun at1 => (funext fun need5 => impl_wordEnd_in2 N w0 at1 need5)))]
  rfl
theorem fn_impl_wordEnd : FnOk Try.prog 117 := ⟨_, Try.func117, by kernel_rfl, by kernel_rfl⟩
theorem good_impl_wordEnd : Gx.Good Try.prog 117 S_impl_wordEnd := good_of_run Try.func117 (of_decide_eq_true (by kernel_rfl)) fun x r h => ⟨A_impl_wordEnd, big, mkCfg_ok tabOk, mkCfg_sigs (show SigsOk Try.prog [] from trivial), (run_impl_wordEnd big x).trans h⟩

/-! impl_IsWord -/
def impl_IsWord_s (w_0 : (List Int)) : Option (Bool × Unit) :=
  cond (decide ((w_0.length : Int) ≤ (40 : Int)))
  ((impl_wordEnd big w_0 (0 : Int)).bind fun rq1 =>
  some (decide (rq1.1 = (w_0.length : Int)), (())))
  (some (false, (())))
def impl_IsWord (w_0 : (List Int)) : Option (Bool × Unit) := impl_IsWord_s w_0
def S_impl_IsWord : Sig := { a := (.pair (.sl I) .unit), md := [0], mf := [], m := .unit, r := .bool, rf := .i, f := fun x => impl_IsWord x.1 }
def A_impl_IsWord : Cfg := mkCfg tab [(117, S_impl_wordEnd)] []
theorem run_impl_IsWord (N : Nat) (x : (S_impl_IsWord).a.den) : runF (A_impl_IsWord) N Try.f57 S_impl_IsWord x = impl_IsWord x.1 := by kernel_rfl
theorem fn_impl_IsWord : FnOk Try.prog 57 := ⟨_, Try.func57, by kernel_rfl, by kernel_rfl⟩
theorem good_impl_IsWord : Gx.Good Try.prog 57 S_impl_IsWord := good_of_run Try.func57 (of_decide_eq_true (by kernel_rfl)) fun x r h => ⟨A_impl_IsWord, big, mkCfg_ok tabOk, mkCfg_sigs (show SigsOk Try.prog [(117, S_impl_wordEnd)] from ⟨⟨fn_impl_wordEnd, good_impl_wordEnd⟩, trivial⟩), (run_impl_IsWord big x).trans h⟩

/-! impl_clone -/
def impl_clone_s (list_0 : (List Int)) : Option ((List Int) × Unit) :=
  (appI [] list_0).bind fun xq1 =>
  some (xq1, (()))
def impl_clone (list_0 : (List Int)) : Option ((List Int) × Unit) := impl_clone_s list_0
def S_impl_clone : Sig := { a := (.pair (.sl I) .unit), md := [0], mf := [], m := .unit, r := (.sl I), rf := (.o .i), f := fun x => impl_clone x.1 }
def A_impl_clone : Cfg := mkCfg tab [] []
theorem run_impl_clone (N : Nat) (x : (S_impl_clone).a.den) : runF (A_impl_clone) N Try.f65 S_impl_clone x = impl_clone x.1 := by kernel_rfl
theorem fn_impl_clone : FnOk Try.prog 65 := ⟨_, Try.func65, by kernel_rfl, by kernel_rfl⟩
theorem good_impl_clone : Gx.Good Try.prog 65 S_impl_clone := good_of_run Try.func65 (of_decide_eq_true (by kernel_rfl)) fun x r h => ⟨A_impl_clone, big, mkCfg_ok tabOk, mkCfg_sigs (show SigsOk Try.prog [] from trivial), (run_impl_clone big x).trans h⟩

/-! impl_partsOf -/
def impl_partsOf_s (w_0 : (List Int)) : Option (((List Int) × ((List Int) × Unit)) × Unit) :=
  (impl_wordEnd big w_0 (1 : Int)).bind fun rq1 =>
  (slI w_0 (1 : Int) rq1.1).bind fun xq2 =>
  (slI w_0 rq1.1 w_0.length).bind fun xq3 =>
  some ((xq2, xq3, ()), (()))
def impl_partsOf (w_0 : (List Int)) : Option (((List Int) × ((List Int) × Unit)) × Unit) := impl_partsOf_s w_0
def S_impl_partsOf : Sig := { a := (.pair (.sl I) .unit), md := [0], mf := [], m := .unit, r := (.tup (.pair (.sl I) (.pair (.sl I) .unit))), rf := .i, f := fun x => impl_partsOf x.1 }
def A_impl_partsOf : Cfg := mkCfg tab [(117, S_impl_wordEnd)] []
theorem run_impl_partsOf (N : Nat) (x : (S_impl_partsOf).a.den) : runF (A_impl_partsOf) N Try.f121 S_impl_partsOf x = impl_partsOf x.1 := by kernel_rfl
theorem fn_impl_partsOf : FnOk Try.prog 121 := ⟨_, Try.func121, by kernel_rfl, by kernel_rfl⟩
theorem good_impl_partsOf : Gx.Good Try.prog 121 S_impl_partsOf := good_of_run Try.func121 (of_decide_eq_true (by kernel_rfl)) fun x r h => ⟨A_impl_partsOf, big, mkCfg_ok tabOk, mkCfg_sigs (show SigsOk Try.prog [(117, S_impl_wordEnd)] from ⟨⟨fn_impl_wordEnd, good_impl_wordEnd⟩, trivial⟩), (run_impl_partsOf big x).trans h⟩

/-! types of impl_membersOf -/
def T_impl_membersOf (self : ((List Int) × (Int × Unit)) → Option ((List (List Int)) × Unit)) : Sig := { a := (.pair (.sl I) (.pair I .unit)), md := [0, 0], mf := [], m := .unit, r := (.sl (.sl I)), rf := (.o (.o .i)), f := self }

/-! impl_membersOf -/
def impl_membersOf_s (self_impl_membersOf : ((List Int) × (Int × Unit)) → Option ((List (List Int)) × Unit)) (w_0 : (List Int)) (sign_1 : Int) : Option ((List (List Int)) × Unit) :=
  (atI w_0 (0 : Int)).bind fun xq1 =>
  cond (decide (xq1 ≠ sign_1))
  ((impl_clone w_0).bind fun rq2 =>
  some ([rq2.1], (())))
  ((impl_partsOf w_0).bind fun rq3 =>
  (self_impl_membersOf (rq3.1.1, sign_1, ())).bind fun rq4 =>
  (self_impl_membersOf (rq3.1.2.1, sign_1, ())).bind fun rq5 =>
  (appI rq4.1 rq5.1).bind fun xq6 =>
  some (xq6, (())))
def impl_membersOf (self_impl_membersOf : ((List Int) × (Int × Unit)) → Option ((List (List Int)) × Unit)) (w_0 : (List Int)) (sign_1 : Int) : Option ((List (List Int)) × Unit) := impl_membersOf_s self_impl_membersOf w_0 sign_1
def A_impl_membersOf (self_impl_membersOf : ((List Int) × (Int × Unit)) → Option ((List (List Int)) × Unit)) : Cfg := mkCfg tab [(65, S_impl_clone), (121, S_impl_partsOf), (66, T_impl_membersOf self_impl_membersOf)] []
theorem run_impl_membersOf (self_impl_membersOf : ((List Int) × (Int × Unit)) → Option ((List (List Int)) × Unit)) (N : Nat) (x : ((T_impl_membersOf self_impl_membersOf)).a.den) : runF (A_impl_membersOf self_impl_membersOf) N Try.f66 (T_impl_membersOf self_impl_membersOf) x = impl_membersOf self_impl_membersOf x.1 x.2.1 := by kernel_rfl
theorem fn_impl_membersOf : FnOk Try.prog 66 := ⟨_, Try.func66, by kernel_rfl, by kernel_rfl⟩

/-! recursion -/
def R_impl_membersOf : Nat → ((List Int) × (Int × Unit)) → Option ((List (List Int)) × Unit)
  | 0, _ => none
  | d + 1, x => impl_membersOf (R_impl_membersOf d) x.1 x.2.1
def S_impl_membersOf : Sig := T_impl_membersOf (R_impl_membersOf big)
theorem goodR_impl_membersOf : ∀ d, Gx.Good Try.prog 66 (T_impl_membersOf (R_impl_membersOf d))
  | 0 => fun x r h => by cases h
  | d + 1 => good_of_run Try.func66 (of_decide_eq_true (by kernel_rfl)) fun x r h => ⟨A_impl_membersOf (R_impl_membersOf d), big, mkCfg_ok tabOk, mkCfg_sigs (show SigsOk Try.prog [(65, S_impl_clone), (121, S_impl_partsOf), (66, T_impl_membersOf (R_impl_membersOf d))] from ⟨⟨fn_impl_clone, good_impl_clone⟩, ⟨fn_impl_partsOf, good_impl_partsOf⟩, ⟨fn_impl_membersOf, goodR_impl_membersOf d⟩, trivial⟩), (run_impl_membersOf (R_impl_membersOf d) big x).trans h⟩
theorem good_impl_membersOf : Gx.Good Try.prog 66 S_impl_membersOf := goodR_impl_membersOf big

/-! impl_MembersOf -/
def impl_MembersOf_s (w_0 : (List Int)) : Option (((List (List Int)) × (Bool × Unit)) × Unit) :=
  (impl_IsWord w_0).bind fun rq1 =>
  cond (!rq1.1)
  (some (([], false, ()), (())))
  ((atI w_0 (0 : Int)).bind fun xq2 =>
  cond (decide ((0 : Int) ≤ xq2))
  ((impl_clone w_0).bind fun rq3 =>
  some (([rq3.1], true, ()), (())))
  ((atI w_0 (0 : Int)).bind fun xq4 =>
  (R_impl_membersOf big (w_0, xq4, ())).bind fun rq5 =>
  some ((rq5.1, true, ()), (()))))
def impl_MembersOf (w_0 : (List Int)) : Option (((List (List Int)) × (Bool × Unit)) × Unit) := impl_MembersOf_s w_0
def S_impl_MembersOf : Sig := { a := (.pair (.sl I) .unit), md := [0], mf := [], m := .unit, r := (.tup (.pair (.sl (.sl I)) (.pair .bool .unit))), rf := (.p (.o (.o .i)) .i), f := fun x => impl_MembersOf x.1 }
def A_impl_MembersOf : Cfg := mkCfg tab [(57, S_impl_IsWord), (65, S_impl_clone), (66, S_impl_membersOf)] []
theorem run_impl_MembersOf (N : Nat) (x : (S_impl_MembersOf).a.den) : runF (A_impl_MembersOf) N Try.f25 S_impl_MembersOf x = impl_MembersOf x.1 := by kernel_rfl
theorem fn_impl_MembersOf : FnOk Try.prog 25 := ⟨_, Try.func25, by kernel_rfl, by kernel_rfl⟩
theorem good_impl_MembersOf : Gx.Good Try.prog 25 S_impl_MembersOf := good_of_run Try.func25 (of_decide_eq_true (by kernel_rfl)) fun x r h => ⟨A_impl_MembersOf, big, mkCfg_ok tabOk, mkCfg_sigs (show SigsOk Try.prog [(57, S_impl_IsWord), (65, S_impl_clone), (66, S_impl_membersOf)] from ⟨⟨fn_impl_IsWord, good_impl_IsWord⟩, ⟨fn_impl_clone, good_impl_clone⟩, ⟨fn_impl_membersOf, good_impl_membersOf⟩, trivial⟩), (run_impl_MembersOf big x).trans h⟩

/-! laws_eqIntS -/
def laws_eqIntS_b4 (rec : (List Int) → (List Int) → Int → Option (Bool × Unit)) (k : Option (Bool × Unit)) (a0 : (List Int)) (b1 : (List Int)) (i5 : Int) : Option (Bool × Unit) :=
  cond (decide (i5 < (a0.length : Int)))
  ((atI a0 i5).bind fun xq1 =>
  (atI b1 i5).bind fun xq2 =>
  cond (decide (xq1 ≠ xq2))
  (some (false, (())))
  (rec a0 b1 (IntKind.i64.wrap (i5 + (1 : Int)))))
  (k)
def laws_eqIntS_a4 : Option (Bool × Unit) :=
  some (true, (()))
def laws_eqIntS_s (L4 : (List Int) → (List Int) → Int → Option (Bool × Unit)) (a_0 : (List Int)) (b_1 : (List Int)) : Option (Bool × Unit) :=
  cond (decide ((a_0.length : Int) ≠ (b_1.length : Int)))
  (some (false, (())))
  (L4 a_0 b_1 (0 : Int))
def laws_eqIntS_l4 (N : Nat) (k : Option (Bool × Unit)) : Nat → (List Int) → (List Int) → Int → Option (Bool × Unit)
  | 0, _, _, _ => none
  | m + 1, a0, b1, i5 => laws_eqIntS_b4 (laws_eqIntS_l4 N k m) k a0 b1 i5
def laws_eqIntS_F4 (N : Nat) (a0 : (List Int)) (b1 : (List Int)) (i5 : Int) : Option (Bool × Unit) := laws_eqIntS_l4 N (laws_eqIntS_a4) N a0 b1 i5
def laws_eqIntS (N : Nat) (a_0 : (List Int)) (b_1 : (List Int)) : Option (Bool × Unit) := laws_eqIntS_s (laws_eqIntS_F4 N) a_0 b_1
def S_laws_eqIntS : Sig := { a := (.pair (.sl I) (.pair (.sl I) .unit)), md := [0, 0], mf := [], m := .unit, r := .bool, rf := .i, f := fun x => laws_eqIntS big x.1 x.2.1 }
def A_laws_eqIntS : Cfg := mkCfg tab [] [(8, [.as (.sl I) .i, .as (.sl I) .i, .drop, .drop, .drop, .as I .i]), (17, [])]
def laws_eqIntS_R4 (cd : Code) (N n : Nat) (K : Ex → St → Option (Bool × Unit)) (a0 : (List Int)) (b1 : (List Int)) (i5 : Int) : Option (Bool × Unit) := iter ((A_laws_eqIntS).shape 8) (run (A_laws_eqIntS) N cd) n ([.val (.sl I) .i a0, .val (.sl I) .i b1, .u, .u, .u, .val I .i i5] ++ List.replicate 20 .u) K
theorem laws_eqIntS_step4 (N : Nat) (m : Nat) (kX : St → Option (Bool × Unit)) (kO : Nat → St → Option (Bool × Unit)) (a0 : (List Int)) (b1 : (List Int)) (i5 : Int) : laws_eqIntS_R4 (codeAt Try.f18 [1, 1, 0, 1, 0, 0]) N (m + 1) (exK (finish (A_laws_eqIntS) S_laws_eqIntS Try.f18.results.toList) 0 ((A_laws_eqIntS).shape 17) kX kO) a0 b1 i5 = laws_eqIntS_b4 (laws_eqIntS_R4 (codeAt Try.f18 [1, 1, 0, 1, 0, 0]) N m (exK (finish (A_laws_eqIntS) S_laws_eqIntS Try.f18.results.toList) 0 ((A_laws_eqIntS).shape 17) kX kO)) (kX ([] ++ List.replicate 26 .u)) a0 b1 i5 := by kernel_rfl
theorem laws_eqIntS_iter4 (N : Nat) (kX : St → Option (Bool × Unit)) (kO : Nat → St → Option (Bool × Unit)) : ∀ (n : Nat) (a0 : (List Int)) (b1 : (List Int)) (i5 : Int), laws_eqIntS_R4 (codeAt Try.f18 [1, 1, 0, 1, 0, 0]) N n (exK (finish (A_laws_eqIntS) S_laws_eqIntS Try.f18.results.toList) 0 ((A_laws_eqIntS).shape 17) kX kO) a0 b1 i5 = laws_eqIntS_l4 N (kX ([] ++ List.replicate 26 .u)) n a0 b1 i5
  | 0, _, _, _ => rfl
  | m + 1, a0, b1, i5 => by
    have hrec : laws_eqIntS_R4 (codeAt Try.f18 [1, 1, 0, 1, 0, 0]) N m (exK (finish (A_laws_eqIntS) S_laws_eqIntS Try.f18.results.toList) 0 ((A_laws_eqIntS).shape 17) kX kO) = (laws_eqIntS_l4 N (kX ([] ++ List.replicate 26 .u)) m) := (funext fun a0 => (funext fun b1 => (funext fun i5 => laws_eqIntS_iter4 N kX kO m a0 b1 i5)))
    refine (laws_eqIntS_step4 N m kX kO a0 b1 i5).trans ?_
    rw [hrec]
    rfl
theorem laws_eqIntS_after4 (N : Nat) : (fun st' => run (A_laws_eqIntS) N (codeAt Try.f18 [1, 1, 1]) st' (finish (A_laws_eqIntS) S_laws_eqIntS Try.f18.results.toList)) ([] ++ List.replicate 26 .u) = laws_eqIntS_a4 := by kernel_rfl
theorem laws_eqIntS_in4 (N : Nat) (a0 : (List Int)) (b1 : (List Int)) (i5 : Int) : laws_eqIntS_R4 (codeAt Try.f18 [1, 1, 0, 1, 0, 0]) N N (blockK 0 (seqK ((A_laws_eqIntS).shape 17) (run (A_laws_eqIntS) N (codeAt Try.f18 [1, 1, 1])) (finish (A_laws_eqIntS) S_laws_eqIntS Try.f18.results.toList))) a0 b1 i5 = laws_eqIntS_F4 N a0 b1 i5 :=
  have h : ((fun st' => run (A_laws_eqIntS) N (codeAt Try.f18 [1, 1, 1]) st' (finish (A_laws_eqIntS) S_laws_eqIntS Try.f18.results.toList)) ([] ++ List.replicate 26 .u)) = (laws_eqIntS_a4) := laws_eqIntS_after4 N
  have e : laws_eqIntS_R4 (codeAt Try.f18 [1, 1, 0, 1, 0, 0]) N N (blockK 0 (seqK ((A_laws_eqIntS).shape 17) (run (A_laws_eqIntS) N (codeAt Try.f18 [1, 1, 1])) (finish (A_laws_eqIntS) S_laws_eqIntS Try.f18.results.toList))) a0 b1 i5 = laws_eqIntS_R4 (codeAt Try.f18 [1, 1, 0, 1, 0, 0]) N N (exK (finish (A_laws_eqIntS) S_laws_eqIntS Try.f18.results.toList) 0 ((A_laws_eqIntS).shape 17) (fun st' => run (A_laws_eqIntS) N (codeAt Try.f18 [1, 1, 1]) st' (finish (A_laws_eqIntS) S_laws_eqIntS Try.f18.results.toList)) (fun j st => (blockK 0 (seqK ((A_laws_eqIntS).shape 17) (run (A_laws_eqIntS) N (codeAt Try.f18 [1, 1, 1])) (finish (A_laws_eqIntS) S_laws_eqIntS Try.f18.results.toList))) (.exit j) st)) a0 b1 i5 := iter_ex (fun st => by kernel_rfl) (fun st => by kernel_rfl)
  (e.trans (laws_eqIntS_iter4 N (fun st' => run (A_laws_eqIntS) N (codeAt Try.f18 [1, 1, 1]) st' (finish (A_laws_eqIntS) S_laws_eqIntS Try.f18.results.toList)) (fun j st => (blockK 0 (seqK ((A_laws_eqIntS).shape 17) (run (A_laws_eqIntS) N (codeAt Try.f18 [1, 1, 1])) (finish (A_laws_eqIntS) S_laws_eqIntS Try.f18.results.toList))) (.exit j) st) N a0 b1 i5)).trans (congrArg (fun k => laws_eqIntS_l4 N k N a0 b1 i5) h)
theorem run0_laws_eqIntS (N : Nat) (x : (S_laws_eqIntS).a.den) : runF (A_laws_eqIntS) N Try.f18 S_laws_eqIntS x = (laws_eqIntS_s (laws_eqIntS_R4 (codeAt Try.f18 [1, 1, 0, 1, 0, 0]) N N (blockK 0 (seqK ((A_laws_eqIntS).shape 17) (run (A_laws_eqIntS) N (codeAt Try.f18 [1, 1, 1])) (finish (A_laws_eqIntS) S_laws_eqIntS Try.f18.results.toList)))) x.1 x.2.1) := by kernel_rfl
theorem run_laws_eqIntS (N : Nat) (x : (S_laws_eqIntS).a.den) : runF (A_laws_eqIntS) N Try.f18 S_laws_eqIntS x = laws_eqIntS N x.1 x.2.1 := by
  refine (run0_laws_eqIntS N x).trans ?_
  rw [(funext fun a0 => (funext fun b1 => (funext fun i5 => laws_eqIntS_in4 N a0 b1 i5)))]
  rfl
theorem fn_laws_eqIntS : FnOk Try.prog 18 := ⟨_, Try.func18, by kernel_rfl, by kernel_rfl⟩
theorem good_laws_eqIntS : Gx.Good Try.prog 18 S_laws_eqIntS := good_of_run Try.func18 (of_decide_eq_true (by kernel_rfl)) fun x r h => ⟨A_laws_eqIntS, big, mkCfg_ok tabOk, mkCfg_sigs (show SigsOk Try.prog [] from trivial), (run_laws_eqIntS big x).trans h⟩

/-! laws_eqIntSS -/
def laws_eqIntSS_b4 (rec : (List (List Int)) → (List (List Int)) → Int → Option (Bool × Unit)) (k : Option (Bool × Unit)) (a0 : (List (List Int))) (b1 : (List (List Int))) (i5 : Int) : Option (Bool × Unit) :=
  cond (decide (i5 < (a0.length : Int)))
  ((atI a0 i5).bind fun xq1 =>
  (atI b1 i5).bind fun xq2 =>
  (laws_eqIntS big xq1 xq2).bind fun rq3 =>
  cond (!rq3.1)
  (some (false, (())))
  (rec a0 b1 (IntKind.i64.wrap (i5 + (1 : Int)))))
  (k)
def laws_eqIntSS_a4 : Option (Bool × Unit) :=
  some (true, (()))
def laws_eqIntSS_s (L4 : (List (List Int)) → (List (List Int)) → Int → Option (Bool × Unit)) (a_0 : (List (List Int))) (b_1 : (List (List Int))) : Option (Bool × Unit) :=
  cond (decide ((a_0.length : Int) ≠ (b_1.length : Int)))
  (some (false, (())))
  (L4 a_0 b_1 (0 : Int))
def laws_eqIntSS_l4 (N : Nat) (k : Option (Bool × Unit)) : Nat → (List (List Int)) → (List (List Int)) → Int → Option (Bool × Unit)
  | 0, _, _, _ => none
  | m + 1, a0, b1, i5 => laws_eqIntSS_b4 (laws_eqIntSS_l4 N k m) k a0 b1 i5
def laws_eqIntSS_F4 (N : Nat) (a0 : (List (List Int))) (b1 : (List (List Int))) (i5 : Int) : Option (Bool × Unit) := laws_eqIntSS_l4 N (laws_eqIntSS_a4) N a0 b1 i5
def laws_eqIntSS (N : Nat) (a_0 : (List (List Int))) (b_1 : (List (List Int))) : Option (Bool × Unit) := laws_eqIntSS_s (laws_eqIntSS_F4 N) a_0 b_1
def S_laws_eqIntSS : Sig := { a := (.pair (.sl (.sl I)) (.pair (.sl (.sl I)) .unit)), md := [0, 0], mf := [], m := .unit, r := .bool, rf := .i, f := fun x => laws_eqIntSS big x.1 x.2.1 }
def A_laws_eqIntSS : Cfg := mkCfg tab [(18, S_laws_eqIntS)] [(8, [.as (.sl (.sl I)) .i, .as (.sl (.sl I)) .i, .drop, .drop, .drop, .as I .i]), (17, [])]
def laws_eqIntSS_R4 (cd : Code) (N n : Nat) (K : Ex → St → Option (Bool × Unit)) (a0 : (List (List Int))) (b1 : (List (List Int))) (i5 : Int) : Option (Bool × Unit) := iter ((A_laws_eqIntSS).shape 8) (run (A_laws_eqIntSS) N cd) n ([.val (.sl (.sl I)) .i a0, .val (.sl (.sl I)) .i b1, .u, .u, .u, .val I .i i5] ++ List.replicate 21 .u) K
theorem laws_eqIntSS_step4 (N : Nat) (m : Nat) (kX : St → Option (Bool × Unit)) (kO : Nat → St → Option (Bool × Unit)) (a0 : (List (List Int))) (b1 : (List (List Int))) (i5 : Int) : laws_eqIntSS_R4 (codeAt Try.f26 [1, 1, 0, 1, 0, 0]) N (m + 1) (exK (finish (A_laws_eqIntSS) S_laws_eqIntSS Try.f26.results.toList) 0 ((A_laws_eqIntSS).shape 17) kX kO) a0 b1 i5 = laws_eqIntSS_b4 (laws_eqIntSS_R4 (codeAt Try.f26 [1, 1, 0, 1, 0, 0]) N m (exK (finish (A_laws_eqIntSS) S_laws_eqIntSS Try.f26.results.toList) 0 ((A_laws_eqIntSS).shape 17) kX kO)) (kX ([] ++ List.replicate 27 .u)) a0 b1 i5 := by kernel_rfl
theorem laws_eqIntSS_iter4 (N : Nat) (kX : St → Option (Bool × Unit)) (kO : Nat → St → Option (Bool × Unit)) : ∀ (n : Nat) (a0 : (List (List Int))) (b1 : (List (List Int))) (i5 : Int), laws_eqIntSS_R4 (codeAt Try.f26 [1, 1, 0, 1, 0, 0]) N n (exK (finish (A_laws_eqIntSS) S_laws_eqIntSS Try.f26.results.toList) 0 ((A_laws_eqIntSS).shape 17) kX kO) a0 b1 i5 = laws_eqIntSS_l4 N (kX ([] ++ List.replicate 27 .u)) n a0 b1 i5
  | 0, _, _, _ => rfl
  | m + 1, a0, b1, i5 => by
    have hrec : laws_eqIntSS_R4 (codeAt Try.f26 [1, 1, 0, 1, 0, 0]) N m (exK (finish (A_laws_eqIntSS) S_laws_eqIntSS Try.f26.results.toList) 0 ((A_laws_eqIntSS).shape 17) kX kO) = (laws_eqIntSS_l4 N (kX ([] ++ List.replicate 27 .u)) m) := (funext fun a0 => (funext fun b1 => (funext fun i5 => laws_eqIntSS_iter4 N kX kO m a0 b1 i5)))
    refine (laws_eqIntSS_step4 N m kX kO a0 b1 i5).trans ?_
    rw [hrec]
    rfl
theorem laws_eqIntSS_after4 (N : Nat) : (fun st' => run (A_laws_eqIntSS) N (codeAt Try.f26 [1, 1, 1]) st' (finish (A_laws_eqIntSS) S_laws_eqIntSS Try.f26.results.toList)) ([] ++ List.replicate 27 .u) = laws_eqIntSS_a4 := by kernel_rfl
theorem laws_eqIntSS_in4 (N : Nat) (a0 : (List (List Int))) (b1 : (List (List Int))) (i5 : Int) : laws_eqIntSS_R4 (codeAt Try.f26 [1, 1, 0, 1, 0, 0]) N N (blockK 0 (seqK ((A_laws_eqIntSS).shape 17) (run (A_laws_eqIntSS) N (codeAt Try.f26 [1, 1, 1])) (finish (A_laws_eqIntSS) S_laws_eqIntSS Try.f26.results.toList))) a0 b1 i5 = laws_eqIntSS_F4 N a0 b1 i5 :=
  have h : ((fun st' => run (A_laws_eqIntSS) N (codeAt Try.f26 [1, 1, 1]) st' (finish (A_laws_eqIntSS) S_laws_eqIntSS Try.f26.results.toList)) ([] ++ List.replicate 27 .u)) = (laws_eqIntSS_a4) := laws_eqIntSS_after4 N
  have e : laws_eqIntSS_R4 (codeAt Try.f26 [1, 1, 0, 1, 0, 0]) N N (blockK 0 (seqK ((A_laws_eqIntSS).shape 17) (run (A_laws_eqIntSS) N (codeAt Try.f26 [1, 1, 1])) (finish (A_laws_eqIntSS) S_laws_eqIntSS Try.f26.results.toList))) a0 b1 i5 = laws_eqIntSS_R4 (codeAt Try.f26 [1, 1, 0, 1, 0, 0]) N N (exK (finish (A_laws_eqIntSS) S_laws_eqIntSS Try.f26.results.toList) 0 ((A_laws_eqIntSS).shape 17) (fun st' => run (A_laws_eqIntSS) N (codeAt Try.f26 [1, 1, 1]) st' (finish (A_laws_eqIntSS) S_laws_eqIntSS Try.f26.results.toList)) (fun j st => (blockK 0 (seqK ((A_laws_eqIntSS).shape 17) (run (A_laws_eqIntSS) N (codeAt Try.f26 [1, 1, 1])) (finish (A_laws_eqIntSS) S_laws_eqIntSS Try.f26.results.toList))) (.exit j) st)) a0 b1 i5 := iter_ex (fun st => by kernel_rfl) (fun st => by kernel_rfl)
  (e.trans (laws_eqIntSS_iter4 N (fun st' => run (A_laws_eqIntSS) N (codeAt Try.f26 [1, 1, 1]) st' (finish (A_laws_eqIntSS) S_laws_eqIntSS Try.f26.results.toList)) (fun j st => (blockK 0 (seqK ((A_laws_eqIntSS).shape 17) (run (A_laws_eqIntSS) N (codeAt Try.f26 [1, 1, 1])) (finish (A_laws_eqIntSS) S_laws_eqIntSS Try.f26.results.toList))) (.exit j) st) N a0 b1 i5)).trans (congrArg (fun k => laws_eqIntSS_l4 N k N a0 b1 i5) h)
theorem run0_laws_eqIntSS (N : Nat) (x : (S_laws_eqIntSS).a.den) : runF (A_laws_eqIntSS) N Try.f26 S_laws_eqIntSS x = (laws_eqIntSS_s (laws_eqIntSS_R4 (codeAt Try.f26 [1, 1, 0, 1, 0, 0]) N N (blockK 0 (seqK ((A_laws_eqIntSS).shape 17) (run (A_laws_eqIntSS) N (codeAt Try.f26 [1, 1, 1])) (finish (A_laws_eqIntSS) S_laws_eqIntSS Try.f26.results.toList)))) x.1 x.2.1) := by kernel_rfl
theorem run_laws_eqIntSS (N : Nat) (x : (S_laws_eqIntSS).a.den) : runF (A_laws_eqIntSS) N Try.f26 S_laws_eqIntSS x = laws_eqIntSS N x.1 x.2.1 := by
  refine (run0_laws_eqIntSS N x).trans ?_
  rw [(funext fun a0 => (funext fun b1 => (funext fun i5 => laws_eqIntSS_in4 N a0 b1 i5)))]
  rfl
theorem fn_laws_eqIntSS : FnOk Try.prog 26 := ⟨_, Try.func26, by kernel_rfl, by kernel_rfl⟩
theorem good_laws_eqIntSS : Gx.Good Try.prog 26 S_laws_eqIntSS := good_of_run Try.func26 (of_decide_eq_true (by kernel_rfl)) fun x r h => ⟨A_laws_eqIntSS, big, mkCfg_ok tabOk, mkCfg_sigs (show SigsOk Try.prog [(18, S_laws_eqIntS)] from ⟨⟨fn_laws_eqIntS, good_laws_eqIntS⟩, trivial⟩), (run_laws_eqIntSS big x).trans h⟩

/-! laws_markIntS -/
def laws_markIntS_b2 (rec : (List Int) → Int → Int → Option (Int × ((List Int) × Unit))) (k : (List Int) → Int → Option (Int × ((List Int) × Unit))) (a0 : (List Int)) (k1 : Int) (i5 : Int) : Option (Int × ((List Int) × Unit)) :=
  cond (decide (i5 < (a0.length : Int)))
  ((atI a0 i5).bind fun _ =>
  (a0[i5.toNat]?).bind fun xq1 =>
  rec (a0.set i5.toNat k1) (IntKind.i64.wrap (k1 + (1 : Int))) (IntKind.i64.wrap (i5 + (1 : Int))))
  (k a0 k1)
def laws_markIntS_a2 (a0 : (List Int)) (k1 : Int) : Option (Int × ((List Int) × Unit)) :=
  some (k1, (a0, ()))
def laws_markIntS_s (L2 : (List Int) → Int → Int → Option (Int × ((List Int) × Unit))) (a_0 : (List Int)) (k_1 : Int) : Option (Int × ((List Int) × Unit)) :=
  L2 a_0 k_1 (0 : Int)
def laws_markIntS_l2 (N : Nat) (k : (List Int) → Int → Option (Int × ((List Int) × Unit))) : Nat → (List Int) → Int → Int → Option (Int × ((List Int) × Unit))
  | 0, _, _, _ => none
  | m + 1, a0, k1, i5 => laws_markIntS_b2 (laws_markIntS_l2 N k m) k a0 k1 i5
def laws_markIntS_F2 (N : Nat) (a0 : (List Int)) (k1 : Int) (i5 : Int) : Option (Int × ((List Int) × Unit)) := laws_markIntS_l2 N (laws_markIntS_a2) N a0 k1 i5
def laws_markIntS (N : Nat) (a_0 : (List Int)) (k_1 : Int) : Option (Int × ((List Int) × Unit)) := laws_markIntS_s (laws_markIntS_F2 N) a_0 k_1
def S_laws_markIntS : Sig := { a := (.pair (.sl I) (.pair I .unit)), md := [1, 0], mf := [(.o .i)], m := (.pair (.sl I) .unit), r := I, rf := .i, f := fun x => laws_markIntS big x.1 x.2.1 }
def A_laws_markIntS : Cfg := mkCfg tab [] [(4, [.as (.sl I) (.o .i), .as I .i, .drop, .drop, .drop, .as I .i]), (13, [.as (.sl I) (.o .i), .as I .i])]
def laws_markIntS_R2 (cd : Code) (N n : Nat) (K : Ex → St → Option (Int × ((List Int) × Unit))) (a0 : (List Int)) (k1 : Int) (i5 : Int) : Option (Int × ((List Int) × Unit)) := iter ((A_laws_markIntS).shape 4) (run (A_laws_markIntS) N cd) n ([.val (.sl I) (.o .i) a0, .val I .i k1, .u, .u, .u, .val I .i i5] ++ List.replicate 13 .u) K
theorem laws_markIntS_step2 (N : Nat) (m : Nat) (kX : St → Option (Int × ((List Int) × Unit))) (kO : Nat → St → Option (Int × ((List Int) × Unit))) (a0 : (List Int)) (k1 : Int) (i5 : Int) : laws_markIntS_R2 (codeAt Try.f27 [1, 0, 1, 0, 0]) N (m + 1) (exK (finish (A_laws_markIntS) S_laws_markIntS Try.f27.results.toList) 0 ((A_laws_markIntS).shape 13) kX kO) a0 k1 i5 = laws_markIntS_b2 (laws_markIntS_R2 (codeAt Try.f27 [1, 0, 1, 0, 0]) N m (exK (finish (A_laws_markIntS) S_laws_markIntS Try.f27.results.toList) 0 ((A_laws_markIntS).shape 13) kX kO)) (fun (a0 : (List Int)) (k1 : Int) => kX ([.val (.sl I) (.o .i) a0, .val I .i k1] ++ List.replicate 17 .u)) a0 k1 i5 := by kernel_rfl
theorem laws_markIntS_iter2 (N : Nat) (kX : St → Option (Int × ((List Int) × Unit))) (kO : Nat → St → Option (Int × ((List Int) × Unit))) : ∀ (n : Nat) (a0 : (List Int)) (k1 : Int) (i5 : Int), laws_markIntS_R2 (codeAt Try.f27 [1, 0, 1, 0, 0]) N n (exK (finish (A_laws_markIntS) S_laws_markIntS Try.f27.results.toList) 0 ((A_laws_markIntS).shape 13) kX kO) a0 k1 i5 = laws_markIntS_l2 N (fun (a0 : (List Int)) (k1 : Int) => kX ([.val (.sl I) (.o .i) a0, .val I .i k1] ++ List.replicate 17 .u)) n a0 k1 i5
  | 0, _, _, _ => rfl
  | m + 1, a0, k1, i5 => by
    have hrec : laws_markIntS_R2 (codeAt Try.f27 [1, 0, 1, 0, 0]) N m (exK (finish (A_laws_markIntS) S_laws_markIntS Try.f27.results.toList) 0 ((A_laws_markIntS).shape 13) kX kO) = (laws_markIntS_l2 N (fun (a0 : (List Int)) (k1 : Int) => kX ([.val (.sl I) (.o .i) a0, .val I .i k1] ++ List.replicate 17 .u)) m) := (funext fun a0 => (funext fun k1 => (funext fun i5 => laws_markIntS_iter2 N kX kO m a0 k1 i5)))
    refine (laws_markIntS_step2 N m kX kO a0 k1 i5).trans ?_
    rw [hrec]
    rfl
theorem laws_markIntS_after2 (N : Nat) (a0 : (List Int)) (k1 : Int) : (fun st' => run (A_laws_markIntS) N (codeAt Try.f27 [1, 1]) st' (finish (A_laws_markIntS) S_laws_markIntS Try.f27.results.toList)) ([.val (.sl I) (.o .i) a0, .val I .i k1] ++ List.replicate 17 .u) = laws_markIntS_a2 a0 k1 := by kernel_rfl
theorem laws_markIntS_in2 (N : Nat) (a0 : (List Int)) (k1 : Int) (i5 : Int) : laws_markIntS_R2 (codeAt Try.f27 [1, 0, 1, 0, 0]) N N (blockK 0 (seqK ((A_laws_markIntS).shape 13) (run (A_laws_markIntS) N (codeAt Try.f27 [1, 1])) (finish (A_laws_markIntS) S_laws_markIntS Try.f27.results.toList))) a0 k1 i5 = laws_markIntS_F2 N a0 k1 i5 :=
  have h : (fun (a0 : (List Int)) (k1 : Int) => (fun st' => run (A_laws_markIntS) N (codeAt Try.f27 [1, 1]) st' (finish (A_laws_markIntS) S_laws_markIntS Try.f27.results.toList)) ([.val (.sl I) (.o .i) a0, .val I .i k1] ++ List.replicate 17 .u)) = (laws_markIntS_a2) := (funext fun a0 => (funext fun k1 => laws_markIntS_after2 N a0 k1))
  have e : laws_markIntS_R2 (codeAt Try.f27 [1, 0, 1, 0, 0]) N N (blockK 0 (seqK ((A_laws_markIntS).shape 13) (run (A_laws_markIntS) N (codeAt Try.f27 [1, 1])) (finish (A_laws_markIntS) S_laws_markIntS Try.f27.results.toList))) a0 k1 i5 = laws_markIntS_R2 (codeAt Try.f27 [1, 0, 1, 0, 0]) N N (exK (finish (A_laws_markIntS) S_laws_markIntS Try.f27.results.toList) 0 ((A_laws_markIntS).shape 13) (fun st' => run (A_laws_markIntS) N (codeAt Try.f27 [1, 1]) st' (finish (A_laws_markIntS) S_laws_markIntS Try.f27.results.toList)) (fun j st => (blockK 0 (seqK ((A_laws_markIntS).shape 13) (run (A_laws_markIntS) N (codeAt Try.f27 [1, 1])) (finish (A_laws_markIntS) S_laws_markIntS Try.f27.results.toList))) (.exit j) st)) a0 k1 i5 := iter_ex (fun st => by kernel_rfl) (fun st => by kernel_rfl)
  (e.trans (laws_markIntS_iter2 N (fun st' => run (A_laws_markIntS) N (codeAt Try.f27 [1, 1]) st' (finish (A_laws_markIntS) S_laws_markIntS Try.f27.results.toList)) (fun j st => (blockK 0 (seqK ((A_laws_markIntS).shape 13) (run (A_laws_markIntS) N (codeAt Try.f27 [1, 1])) (finish (A_laws_markIntS) S_laws_markIntS Try.f27.results.toList))) (.exit j) st) N a0 k1 i5)).trans (congrArg (fun k => laws_markIntS_l2 N k N a0 k1 i5) h)
theorem run0_laws_markIntS (N : Nat) (x : (S_laws_markIntS).a.den) : runF (A_laws_markIntS) N Try.f27 S_laws_markIntS x = (laws_markIntS_s (laws_markIntS_R2 (codeAt Try.f27 [1, 0, 1, 0, 0]) N N (blockK 0 (seqK ((A_laws_markIntS).shape 13) (run (A_laws_markIntS) N (codeAt Try.f27 [1, 1])) (finish (A_laws_markIntS) S_laws_markIntS Try.f27.results.toList)))) x.1 x.2.1) := by kernel_rfl
theorem run_laws_markIntS (N : Nat) (x : (S_laws_markIntS).a.den) : runF (A_laws_markIntS) N Try.f27 S_laws_markIntS x = laws_markIntS N x.1 x.2.1 := by
  refine (run0_laws_markIntS N x).trans ?_
  rw [(funext fun a0 => (funext fun k1 => (funext fun i5 => laws_markIntS_in2 N a0 k1 i5)))]
  rfl
theorem fn_laws_markIntS : FnOk Try.prog 27 := ⟨_, Try.func27, by kernel_rfl, by kernel_rfl⟩
theorem good_laws_markIntS : Gx.Good Try.prog 27 S_laws_markIntS := good_of_run Try.func27 (of_decide_eq_true (by kernel_rfl)) fun x r h => ⟨A_laws_markIntS, big, mkCfg_ok tabOk, mkCfg_sigs (show SigsOk Try.prog [] from trivial), (run_laws_markIntS big x).trans h⟩

/-! laws_markIntSS -/
def laws_markIntSS_b2 (rec : (List (List Int)) → Int → Int → Option (Int × ((List (List Int)) × Unit))) (k : (List (List Int)) → Int → Option (Int × ((List (List Int)) × Unit))) (a0 : (List (List Int))) (k1 : Int) (i5 : Int) : Option (Int × ((List (List Int)) × Unit)) :=
  cond (decide (i5 < (a0.length : Int)))
  ((atI a0 i5).bind fun _ =>
  (a0[i5.toNat]?).bind fun xq1 =>
  (a0[i5.toNat]?).bind fun xq2 =>
  (laws_markIntS big xq2 k1).bind fun rq3 =>
  (a0[i5.toNat]?).bind fun xq4 =>
  (a0[i5.toNat]?).bind fun xq5 =>
  rec (a0.set i5.toNat rq3.2.1) rq3.1 (IntKind.i64.wrap (i5 + (1 : Int))))
  (k a0 k1)
def laws_markIntSS_a2 (a0 : (List (List Int))) (k1 : Int) : Option (Int × ((List (List Int)) × Unit)) :=
  some (k1, (a0, ()))
def laws_markIntSS_s (L2 : (List (List Int)) → Int → Int → Option (Int × ((List (List Int)) × Unit))) (a_0 : (List (List Int))) (k_1 : Int) : Option (Int × ((List (List Int)) × Unit)) :=
  L2 a_0 k_1 (0 : Int)
def laws_markIntSS_l2 (N : Nat) (k : (List (List Int)) → Int → Option (Int × ((List (List Int)) × Unit))) : Nat → (List (List Int)) → Int → Int → Option (Int × ((List (List Int)) × Unit))
  | 0, _, _, _ => none
  | m + 1, a0, k1, i5 => laws_markIntSS_b2 (laws_markIntSS_l2 N k m) k a0 k1 i5
def laws_markIntSS_F2 (N : Nat) (a0 : (List (List Int))) (k1 : Int) (i5 : Int) : Option (Int × ((List (List Int)) × Unit)) := laws_markIntSS_l2 N (laws_markIntSS_a2) N a0 k1 i5
def laws_markIntSS (N : Nat) (a_0 : (List (List Int))) (k_1 : Int) : Option (Int × ((List (List Int)) × Unit)) := laws_markIntSS_s (laws_markIntSS_F2 N) a_0 k_1
def S_laws_markIntSS : Sig := { a := (.pair (.sl (.sl I)) (.pair I .unit)), md := [1, 0], mf := [(.o (.o .i))], m := (.pair (.sl (.sl I)) .unit), r := I, rf := .i, f := fun x => laws_markIntSS big x.1 x.2.1 }
def A_laws_markIntSS : Cfg := mkCfg tab [(27, S_laws_markIntS)] [(4, [.as (.sl (.sl I)) (.o (.o .i)), .as I .i, .drop, .drop, .drop, .as I .i]), (11, [.as (.sl (.sl I)) (.o (.o .i)), .as I .i])]
def laws_markIntSS_R2 (cd : Code) (N n : Nat) (K : Ex → St → Option (Int × ((List (List Int)) × Unit))) (a0 : (List (List Int))) (k1 : Int) (i5 : Int) : Option (Int × ((List (List Int)) × Unit)) := iter ((A_laws_markIntSS).shape 4) (run (A_laws_markIntSS) N cd) n ([.val (.sl (.sl I)) (.o (.o .i)) a0, .val I .i k1, .u, .u, .u, .val I .i i5] ++ List.replicate 13 .u) K
theorem laws_markIntSS_step2 (N : Nat) (m : Nat) (kX : St → Option (Int × ((List (List Int)) × Unit))) (kO : Nat → St → Option (Int × ((List (List Int)) × Unit))) (a0 : (List (List Int))) (k1 : Int) (i5 : Int) : laws_markIntSS_R2 (codeAt Try.f28 [1, 0, 1, 0, 0]) N (m + 1) (exK (finish (A_laws_markIntSS) S_laws_markIntSS Try.f28.results.toList) 0 ((A_laws_markIntSS).shape 11) kX kO) a0 k1 i5 = laws_markIntSS_b2 (laws_markIntSS_R2 (codeAt Try.f28 [1, 0, 1, 0, 0]) N m (exK (finish (A_laws_markIntSS) S_laws_markIntSS Try.f28.results.toList) 0 ((A_laws_markIntSS).shape 11) kX kO)) (fun (a0 : (List (List Int))) (k1 : Int) => kX ([.val (.sl (.sl I)) (.o (.o .i)) a0, .val I .i k1] ++ List.replicate 17 .u)) a0 k1 i5 := by kernel_rfl
theorem laws_markIntSS_iter2 (N : Nat) (kX : St → Option (Int × ((List (List Int)) × Unit))) (kO : Nat → St → Option (Int × ((List (List Int)) × Unit))) : ∀ (n : Nat) (a0 : (List (List Int))) (k1 : Int) (i5 : Int), laws_markIntSS_R2 (codeAt Try.f28 [1, 0, 1, 0, 0]) N n (exK (finish (A_laws_markIntSS) S_laws_markIntSS Try.f28.results.toList) 0 ((A_laws_markIntSS).shape 11) kX kO) a0 k1 i5 = laws_markIntSS_l2 N (fun (a0 : (List (List Int))) (k1 : Int) => kX ([.val (.sl (.sl I)) (.o (.o .i)) a0, .val I .i k1] ++ List.replicate 17 .u)) n a0 k1 i5
  | 0, _, _, _ => rfl
  | m + 1, a0, k1, i5 => by
    have hrec : laws_markIntSS_R2 (codeAt Try.f28 [1, 0, 1, 0, 0]) N m (exK (finish (A_laws_markIntSS) S_laws_markIntSS Try.f28.results.toList) 0 ((A_laws_markIntSS).shape 11) kX kO) = (laws_markIntSS_l2 N (fun (a0 : (List (List Int))) (k1 : Int) => kX ([.val (.sl (.sl I)) (.o (.o .i)) a0, .val I .i k1] ++ List.replicate 17 .u)) m) := (funext fun a0 => (funext fun k1 => (funext fun i5 => laws_markIntSS_iter2 N kX kO m a0 k1 i5)))
    refine (laws_markIntSS_step2 N m kX kO a0 k1 i5).trans ?_
    rw [hrec]
    rfl
theorem laws_markIntSS_after2 (N : Nat) (a0 : (List (List Int))) (k1 : Int) : (fun st' => run (A_laws_markIntSS) N (codeAt Try.f28 [1, 1]) st' (finish (A_laws_markIntSS) S_laws_markIntSS Try.f28.results.toList)) ([.val (.sl (.sl I)) (.o (.o .i)) a0, .val I .i k1] ++ List.replicate 17 .u) = laws_markIntSS_a2 a0 k1 := by kernel_rfl
theorem laws_markIntSS_in2 (N : Nat) (a0 : (List (List Int))) (k1 : Int) (i5 : Int) : laws_markIntSS_R2 (codeAt Try.f28 [1, 0, 1, 0, 0]) N N (blockK 0 (seqK ((A_laws_markIntSS).shape 11) (run (A_laws_markIntSS) N (codeAt Try.f28 [1, 1])) (finish (A_laws_markIntSS) S_laws_markIntSS Try.f28.results.toList))) a0 k1 i5 = laws_markIntSS_F2 N a0 k1 i5 :=
  have h : (fun (a0 : (List (List Int))) (k1 : Int) => (fun st' => run (A_laws_markIntSS) N (codeAt Try.f28 [1, 1]) st' (finish (A_laws_markIntSS) S_laws_markIntSS Try.f28.results.toList)) ([.val (.sl (.sl I)) (.o (.o .i)) a0, .val I .i k1] ++ List.replicate 17 .u)) = (laws_markIntSS_a2) := (funext fun a0 => (funext fun k1 => laws_markIntSS_after2 N a0 k1))
  have e : laws_markIntSS_R2 (codeAt Try.f28 [1, 0, 1, 0, 0]) N N (blockK 0 (seqK ((A_laws_markIntSS).shape 11) (run (A_laws_markIntSS) N (codeAt Try.f28 [1, 1])) (finish (A_laws_markIntSS) S_laws_markIntSS Try.f28.results.toList))) a0 k1 i5 = laws_markIntSS_R2 (codeAt Try.f28 [1, 0, 1, 0, 0]) N N (exK (finish (A_laws_markIntSS) S_laws_markIntSS Try.f28.results.toList) 0 ((A_laws_markIntSS).shape 11) (fun st' => run (A_laws_markIntSS) N (codeAt Try.f28 [1, 1]) st' (finish (A_laws_markIntSS) S_laws_markIntSS Try.f28.results.toList)) (fun j st => (blockK 0 (seqK ((A_laws_markIntSS).shape 11) (run (A_laws_markIntSS) N (codeAt Try.f28 [1, 1])) (finish (A_laws_markIntSS) S_laws_markIntSS Try.f28.results.toList))) (.exit j) st)) a0 k1 i5 := iter_ex (fun st => by kernel_rfl) (fun st => by kernel_rfl)
  (e.trans (laws_markIntSS_iter2 N (fun st' => run (A_laws_markIntSS) N (codeAt Try.f28 [1, 1]) st' (finish (A_laws_markIntSS) S_laws_markIntSS Try.f28.results.toList)) (fun j st => (blockK 0 (seqK ((A_laws_markIntSS).shape 11) (run (A_laws_markIntSS) N (codeAt Try.f28 [1, 1])) (finish (A_laws_markIntSS) S_laws_markIntSS Try.f28.results.toList))) (.exit j) st) N a0 k1 i5)).trans (congrArg (fun k => laws_markIntSS_l2 N k N a0 k1 i5) h)
theorem run0_laws_markIntSS (N : Nat) (x : (S_laws_markIntSS).a.den) : runF (A_laws_markIntSS) N Try.f28 S_laws_markIntSS x = (laws_markIntSS_s (laws_markIntSS_R2 (codeAt Try.f28 [1, 0, 1, 0, 0]) N N (blockK 0 (seqK ((A_laws_markIntSS).shape 11) (run (A_laws_markIntSS) N (codeAt Try.f28 [1, 1])) (finish (A_laws_markIntSS) S_laws_markIntSS Try.f28.results.toList)))) x.1 x.2.1) := by kernel_rfl
theorem run_laws_markIntSS (N : Nat) (x : (S_laws_markIntSS).a.den) : runF (A_laws_markIntSS) N Try.f28 S_laws_markIntSS x = laws_markIntSS N x.1 x.2.1 := by
  refine (run0_laws_markIntSS N x).trans ?_
  rw [(funext fun a0 => (funext fun k1 => (funext fun i5 => laws_markIntSS_in2 N a0 k1 i5)))]
  rfl
theorem fn_laws_markIntSS : FnOk Try.prog 28 := ⟨_, Try.func28, by kernel_rfl, by kernel_rfl⟩
theorem good_laws_markIntSS : Gx.Good Try.prog 28 S_laws_markIntSS := good_of_run Try.func28 (of_decide_eq_true (by kernel_rfl)) fun x r h => ⟨A_laws_markIntSS, big, mkCfg_ok tabOk, mkCfg_sigs (show SigsOk Try.prog [(27, S_laws_markIntS)] from ⟨⟨fn_laws_markIntS, good_laws_markIntS⟩, trivial⟩), (run_laws_markIntSS big x).trans h⟩

/-! laws_heldIntS -/
def laws_heldIntS_b2 (rec : (List Int) → Int → Int → Option (Int × Unit)) (k : Int → Option (Int × Unit)) (a0 : (List Int)) (k1 : Int) (i5 : Int) : Option (Int × Unit) :=
  cond (decide (i5 < (a0.length : Int)))
  ((atI a0 i5).bind fun xq1 =>
  cond (decide (xq1 ≠ k1))
  (some ((-1 : Int), (())))
  (rec a0 (IntKind.i64.wrap (k1 + (1 : Int))) (IntKind.i64.wrap (i5 + (1 : Int)))))
  (k k1)
def laws_heldIntS_a2 (k1 : Int) : Option (Int × Unit) :=
  some (k1, (()))
def laws_heldIntS_s (L2 : (List Int) → Int → Int → Option (Int × Unit)) (a_0 : (List Int)) (k_1 : Int) : Option (Int × Unit) :=
  L2 a_0 k_1 (0 : Int)
def laws_heldIntS_l2 (N : Nat) (k : Int → Option (Int × Unit)) : Nat → (List Int) → Int → Int → Option (Int × Unit)
  | 0, _, _, _ => none
  | m + 1, a0, k1, i5 => laws_heldIntS_b2 (laws_heldIntS_l2 N k m) k a0 k1 i5
def laws_heldIntS_F2 (N : Nat) (a0 : (List Int)) (k1 : Int) (i5 : Int) : Option (Int × Unit) := laws_heldIntS_l2 N (laws_heldIntS_a2) N a0 k1 i5
def laws_heldIntS (N : Nat) (a_0 : (List Int)) (k_1 : Int) : Option (Int × Unit) := laws_heldIntS_s (laws_heldIntS_F2 N) a_0 k_1
def S_laws_heldIntS : Sig := { a := (.pair (.sl I) (.pair I .unit)), md := [0, 0], mf := [], m := .unit, r := I, rf := .i, f := fun x => laws_heldIntS big x.1 x.2.1 }
def A_laws_heldIntS : Cfg := mkCfg tab [] [(4, [.as (.sl I) .i, .as I .i, .drop, .drop, .drop, .as I .i]), (15, [.drop, .as I .i])]
def laws_heldIntS_R2 (cd : Code) (N n : Nat) (K : Ex → St → Option (Int × Unit)) (a0 : (List Int)) (k1 : Int) (i5 : Int) : Option (Int × Unit) := iter ((A_laws_heldIntS).shape 4) (run (A_laws_heldIntS) N cd) n ([.val (.sl I) .i a0, .val I .i k1, .u, .u, .u, .val I .i i5] ++ List.replicate 15 .u) K
theorem laws_heldIntS_step2 (N : Nat) (m : Nat) (kX : St → Option (Int × Unit)) (kO : Nat → St → Option (Int × Unit)) (a0 : (List Int)) (k1 : Int) (i5 : Int) : laws_heldIntS_R2 (codeAt Try.f36 [1, 0, 1, 0, 0]) N (m + 1) (exK (finish (A_laws_heldIntS) S_laws_heldIntS Try.f36.results.toList) 0 ((A_laws_heldIntS).shape 15) kX kO) a0 k1 i5 = laws_heldIntS_b2 (laws_heldIntS_R2 (codeAt Try.f36 [1, 0, 1, 0, 0]) N m (exK (finish (A_laws_heldIntS) S_laws_heldIntS Try.f36.results.toList) 0 ((A_laws_heldIntS).shape 15) kX kO)) (fun (k1 : Int) => kX ([.u, .val I .i k1] ++ List.replicate 19 .u)) a0 k1 i5 := by kernel_rfl
theorem laws_heldIntS_iter2 (N : Nat) (kX : St → Option (Int × Unit)) (kO : Nat → St → Option (Int × Unit)) : ∀ (n : Nat) (a0 : (List Int)) (k1 : Int) (i5 : Int), laws_heldIntS_R2 (codeAt Try.f36 [1, 0, 1, 0, 0]) N n (exK (finish (A_laws_heldIntS) S_laws_heldIntS Try.f36.results.toList) 0 ((A_laws_heldIntS).shape 15) kX kO) a0 k1 i5 = laws_heldIntS_l2 N (fun (k1 : Int) => kX ([.u, .val I .i k1] ++ List.replicate 19 .u)) n a0 k1 i5
  | 0, _, _, _ => rfl
  | m + 1, a0, k1, i5 => by
    have hrec : laws_heldIntS_R2 (codeAt Try.f36 [1, 0, 1, 0, 0]) N m (exK (finish (A_laws_heldIntS) S_laws_heldIntS Try.f36.results.toList) 0 ((A_laws_heldIntS).shape 15) kX kO) = (laws_heldIntS_l2 N (fun (k1 : Int) => kX ([.u, .val I .i k1] ++ List.replicate 19 .u)) m) := (funext fun a0 => (funext fun k1 => (funext fun i5 => laws_heldIntS_iter2 N kX kO m a0 k1 i5)))
    refine (laws_heldIntS_step2 N m kX kO a0 k1 i5).trans ?_
    rw [hrec]
    rfl
theorem laws_heldIntS_after2 (N : Nat) (k1 : Int) : (fun st' => run (A_laws_heldIntS) N (codeAt Try.f36 [1, 1]) st' (finish (A_laws_heldIntS) S_laws_heldIntS Try.f36.results.toList)) ([.u, .val I .i k1] ++ List.replicate 19 .u) = laws_heldIntS_a2 k1 := by kernel_rfl
theorem laws_heldIntS_in2 (N : Nat) (a0 : (List Int)) (k1 : Int) (i5 : Int) : laws_heldIntS_R2 (codeAt Try.f36 [1, 0, 1, 0, 0]) N N (blockK 0 (seqK ((A_laws_heldIntS).shape 15) (run (A_laws_heldIntS) N (codeAt Try.f36 [1, 1])) (finish (A_laws_heldIntS) S_laws_heldIntS Try.f36.results.toList))) a0 k1 i5 = laws_heldIntS_F2 N a0 k1 i5 :=
  have h : (fun (k1 : Int) => (fun st' => run (A_laws_heldIntS) N (codeAt Try.f36 [1, 1]) st' (finish (A_laws_heldIntS) S_laws_heldIntS Try.f36.results.toList)) ([.u, .val I .i k1] ++ List.replicate 19 .u)) = (laws_heldIntS_a2) := (funext fun k1 => laws_heldIntS_after2 N k1)
  have e : laws_heldIntS_R2 (codeAt Try.f36 [1, 0, 1, 0, 0]) N N (blockK 0 (seqK ((A_laws_heldIntS).shape 15) (run (A_laws_heldIntS) N (codeAt Try.f36 [1, 1])) (finish (A_laws_heldIntS) S_laws_heldIntS Try.f36.results.toList))) a0 k1 i5 = laws_heldIntS_R2 (codeAt Try.f36 [1, 0, 1, 0, 0]) N N (exK (finish (A_laws_heldIntS) S_laws_heldIntS Try.f36.results.toList) 0 ((A_laws_heldIntS).shape 15) (fun st' => run (A_laws_heldIntS) N (codeAt Try.f36 [1, 1]) st' (finish (A_laws_heldIntS) S_laws_heldIntS Try.f36.results.toList)) (fun j st => (blockK 0 (seqK ((A_laws_heldIntS).shape 15) (run (A_laws_heldIntS) N (codeAt Try.f36 [1, 1])) (finish (A_laws_heldIntS) S_laws_heldIntS Try.f36.results.toList))) (.exit j) st)) a0 k1 i5 := iter_ex (fun st => by kernel_rfl) (fun st => by kernel_rfl)
  (e.trans (laws_heldIntS_iter2 N (fun st' => run (A_laws_heldIntS) N (codeAt Try.f36 [1, 1]) st' (finish (A_laws_heldIntS) S_laws_heldIntS Try.f36.results.toList)) (fun j st => (blockK 0 (seqK ((A_laws_heldIntS).shape 15) (run (A_laws_heldIntS) N (codeAt Try.f36 [1, 1])) (finish (A_laws_heldIntS) S_laws_heldIntS Try.f36.results.toList))) (.exit j) st) N a0 k1 i5)).trans (congrArg (fun k => laws_heldIntS_l2 N k N a0 k1 i5) h)
theorem run0_laws_heldIntS (N : Nat) (x : (S_laws_heldIntS).a.den) : runF (A_laws_heldIntS) N Try.f36 S_laws_heldIntS x = (laws_heldIntS_s (laws_heldIntS_R2 (codeAt Try.f36 [1, 0, 1, 0, 0]) N N (blockK 0 (seqK ((A_laws_heldIntS).shape 15) (run (A_laws_heldIntS) N (codeAt Try.f36 [1, 1])) (finish (A_laws_heldIntS) S_laws_heldIntS Try.f36.results.toList)))) x.1 x.2.1) := by kernel_rfl
theorem run_laws_heldIntS (N : Nat) (x : (S_laws_heldIntS).a.den) : runF (A_laws_heldIntS) N Try.f36 S_laws_heldIntS x = laws_heldIntS N x.1 x.2.1 := by
  refine (run0_laws_heldIntS N x).trans ?_
  rw [(funext fun a0 => (funext fun k1 => (funext fun i5 => laws_heldIntS_in2 N a0 k1 i5)))]
  rfl
theorem fn_laws_heldIntS : FnOk Try.prog 36 := ⟨_, Try.func36, by kernel_rfl, by kernel_rfl⟩
theorem good_laws_heldIntS : Gx.Good Try.prog 36 S_laws_heldIntS := good_of_run Try.func36 (of_decide_eq_true (by kernel_rfl)) fun x r h => ⟨A_laws_heldIntS, big, mkCfg_ok tabOk, mkCfg_sigs (show SigsOk Try.prog [] from trivial), (run_laws_heldIntS big x).trans h⟩

/-! laws_heldIntSS -/
def laws_heldIntSS_b2 (rec : (List (List Int)) → Int → Int → Option (Int × Unit)) (k : Int → Option (Int × Unit)) (a0 : (List (List Int))) (k1 : Int) (i5 : Int) : Option (Int × Unit) :=
  cond (decide (i5 < (a0.length : Int)))
  ((atI a0 i5).bind fun xq1 =>
  (laws_heldIntS big xq1 k1).bind fun rq2 =>
  cond (decide (rq2.1 < (0 : Int)))
  (some ((-1 : Int), (())))
  (rec a0 rq2.1 (IntKind.i64.wrap (i5 + (1 : Int)))))
  (k k1)
def laws_heldIntSS_a2 (k1 : Int) : Option (Int × Unit) :=
  some (k1, (()))
def laws_heldIntSS_s (L2 : (List (List Int)) → Int → Int → Option (Int × Unit)) (a_0 : (List (List Int))) (k_1 : Int) : Option (Int × Unit) :=
  L2 a_0 k_1 (0 : Int)
def laws_heldIntSS_l2 (N : Nat) (k : Int → Option (Int × Unit)) : Nat → (List (List Int)) → Int → Int → Option (Int × Unit)
  | 0, _, _, _ => none
  | m + 1, a0, k1, i5 => laws_heldIntSS_b2 (laws_heldIntSS_l2 N k m) k a0 k1 i5
def laws_heldIntSS_F2 (N : Nat) (a0 : (List (List Int))) (k1 : Int) (i5 : Int) : Option (Int × Unit) := laws_heldIntSS_l2 N (laws_heldIntSS_a2) N a0 k1 i5
def laws_heldIntSS (N : Nat) (a_0 : (List (List Int))) (k_1 : Int) : Option (Int × Unit) := laws_heldIntSS_s (laws_heldIntSS_F2 N) a_0 k_1
def S_laws_heldIntSS : Sig := { a := (.pair (.sl (.sl I)) (.pair I .unit)), md := [0, 0], mf := [], m := .unit, r := I, rf := .i, f := fun x => laws_heldIntSS big x.1 x.2.1 }
def A_laws_heldIntSS : Cfg := mkCfg tab [(36, S_laws_heldIntS)] [(4, [.as (.sl (.sl I)) .i, .as I .i, .drop, .drop, .drop, .as I .i]), (15, [.drop, .as I .i])]
def laws_heldIntSS_R2 (cd : Code) (N n : Nat) (K : Ex → St → Option (Int × Unit)) (a0 : (List (List Int))) (k1 : Int) (i5 : Int) : Option (Int × Unit) := iter ((A_laws_heldIntSS).shape 4) (run (A_laws_heldIntSS) N cd) n ([.val (.sl (.sl I)) .i a0, .val I .i k1, .u, .u, .u, .val I .i i5] ++ List.replicate 15 .u) K
theorem laws_heldIntSS_step2 (N : Nat) (m : Nat) (kX : St → Option (Int × Unit)) (kO : Nat → St → Option (Int × Unit)) (a0 : (List (List Int))) (k1 : Int) (i5 : Int) : laws_heldIntSS_R2 (codeAt Try.f29 [1, 0, 1, 0, 0]) N (m + 1) (exK (finish (A_laws_heldIntSS) S_laws_heldIntSS Try.f29.results.toList) 0 ((A_laws_heldIntSS).shape 15) kX kO) a0 k1 i5 = laws_heldIntSS_b2 (laws_heldIntSS_R2 (codeAt Try.f29 [1, 0, 1, 0, 0]) N m (exK (finish (A_laws_heldIntSS) S_laws_heldIntSS Try.f29.results.toList) 0 ((A_laws_heldIntSS).shape 15) kX kO)) (fun (k1 : Int) => kX ([.u, .val I .i k1] ++ List.replicate 19 .u)) a0 k1 i5 := by kernel_rfl
theorem laws_heldIntSS_iter2 (N : Nat) (kX : St → Option (Int × Unit)) (kO : Nat → St → Option (Int × Unit)) : ∀ (n : Nat) (a0 : (List (List Int))) (k1 : Int) (i5 : Int), laws_heldIntSS_R2 (codeAt Try.f29 [1, 0, 1, 0, 0]) N n (exK (finish (A_laws_heldIntSS) S_laws_heldIntSS Try.f29.results.toList) 0 ((A_laws_heldIntSS).shape 15) kX kO) a0 k1 i5 = laws_heldIntSS_l2 N (fun (k1 : Int) => kX ([.u, .val I .i k1] ++ List.replicate 19 .u)) n a0 k1 i5
  | 0, _, _, _ => rfl
  | m + 1, a0, k1, i5 => by
    have hrec : laws_heldIntSS_R2 (codeAt Try.f29 [1, 0, 1, 0, 0]) N m (exK (finish (A_laws_heldIntSS) S_laws_heldIntSS Try.f29.results.toList) 0 ((A_laws_heldIntSS).shape 15) kX kO) = (laws_heldIntSS_l2 N (fun (k1 : Int) => kX ([.u, .val I .i k1] ++ List.replicate 19 .u)) m) := (funext fun a0 => (funext fun k1 => (funext fun i5 => laws_heldIntSS_iter2 N kX kO m a0 k1 i5)))
    refine (laws_heldIntSS_step2 N m kX kO a0 k1 i5).trans ?_
    rw [hrec]
    rfl
theorem laws_heldIntSS_after2 (N : Nat) (k1 : Int) : (fun st' => run (A_laws_heldIntSS) N (codeAt Try.f29 [1, 1]) st' (finish (A_laws_heldIntSS) S_laws_heldIntSS Try.f29.results.toList)) ([.u, .val I .i k1] ++ List.replicate 19 .u) = laws_heldIntSS_a2 k1 := by kernel_rfl
theorem laws_heldIntSS_in2 (N : Nat) (a0 : (List (List Int))) (k1 : Int) (i5 : Int) : laws_heldIntSS_R2 (codeAt Try.f29 [1, 0, 1, 0, 0]) N N (blockK 0 (seqK ((A_laws_heldIntSS).shape 15) (run (A_laws_heldIntSS) N (codeAt Try.f29 [1, 1])) (finish (A_laws_heldIntSS) S_laws_heldIntSS Try.f29.results.toList))) a0 k1 i5 = laws_heldIntSS_F2 N a0 k1 i5 :=
  have h : (fun (k1 : Int) => (fun st' => run (A_laws_heldIntSS) N (codeAt Try.f29 [1, 1]) st' (finish (A_laws_heldIntSS) S_laws_heldIntSS Try.f29.results.toList)) ([.u, .val I .i k1] ++ List.replicate 19 .u)) = (laws_heldIntSS_a2) := (funext fun k1 => laws_heldIntSS_after2 N k1)
  have e : laws_heldIntSS_R2 (codeAt Try.f29 [1, 0, 1, 0, 0]) N N (blockK 0 (seqK ((A_laws_heldIntSS).shape 15) (run (A_laws_heldIntSS) N (codeAt Try.f29 [1, 1])) (finish (A_laws_heldIntSS) S_laws_heldIntSS Try.f29.results.toList))) a0 k1 i5 = laws_heldIntSS_R2 (codeAt Try.f29 [1, 0, 1, 0, 0]) N N (exK (finish (A_laws_heldIntSS) S_laws_heldIntSS Try.f29.results.toList) 0 ((A_laws_heldIntSS).shape 15) (fun st' => run (A_laws_heldIntSS) N (codeAt Try.f29 [1, 1]) st' (finish (A_laws_heldIntSS) S_laws_heldIntSS Try.f29.results.toList)) (fun j st => (blockK 0 (seqK ((A_laws_heldIntSS).shape 15) (run (A_laws_heldIntSS) N (codeAt Try.f29 [1, 1])) (finish (A_laws_heldIntSS) S_laws_heldIntSS Try.f29.results.toList))) (.exit j) st)) a0 k1 i5 := iter_ex (fun st => by kernel_rfl) (fun st => by kernel_rfl)
  (e.trans (laws_heldIntSS_iter2 N (fun st' => run (A_laws_heldIntSS) N (codeAt Try.f29 [1, 1]) st' (finish (A_laws_heldIntSS) S_laws_heldIntSS Try.f29.results.toList)) (fun j st => (blockK 0 (seqK ((A_laws_heldIntSS).shape 15) (run (A_laws_heldIntSS) N (codeAt Try.f29 [1, 1])) (finish (A_laws_heldIntSS) S_laws_heldIntSS Try.f29.results.toList))) (.exit j) st) N a0 k1 i5)).trans (congrArg (fun k => laws_heldIntSS_l2 N k N a0 k1 i5) h)
theorem run0_laws_heldIntSS (N : Nat) (x : (S_laws_heldIntSS).a.den) : runF (A_laws_heldIntSS) N Try.f29 S_laws_heldIntSS x = (laws_heldIntSS_s (laws_heldIntSS_R2 (codeAt Try.f29 [1, 0, 1, 0, 0]) N N (blockK 0 (seqK ((A_laws_heldIntSS).shape 15) (run (A_laws_heldIntSS) N (codeAt Try.f29 [1, 1])) (finish (A_laws_heldIntSS) S_laws_heldIntSS Try.f29.results.toList)))) x.1 x.2.1) := by kernel_rfl
theorem run_laws_heldIntSS (N : Nat) (x : (S_laws_heldIntSS).a.den) : runF (A_laws_heldIntSS) N Try.f29 S_laws_heldIntSS x = laws_heldIntSS N x.1 x.2.1 := by
  refine (run0_laws_heldIntSS N x).trans ?_
  rw [(funext fun a0 => (funext fun k1 => (funext fun i5 => laws_heldIntSS_in2 N a0 k1 i5)))]
  rfl
theorem fn_laws_heldIntSS : FnOk Try.prog 29 := ⟨_, Try.func29, by kernel_rfl, by kernel_rfl⟩
theorem good_laws_heldIntSS : Gx.Good Try.prog 29 S_laws_heldIntSS := good_of_run Try.func29 (of_decide_eq_true (by kernel_rfl)) fun x r h => ⟨A_laws_heldIntSS, big, mkCfg_ok tabOk, mkCfg_sigs (show SigsOk Try.prog [(36, S_laws_heldIntS)] from ⟨⟨fn_laws_heldIntS, good_laws_heldIntS⟩, trivial⟩), (run_laws_heldIntSS big x).trans h⟩

/-! laws_FnExactMembersOf -/
def laws_FnExactMembersOf_s (aW_0 : (List Int)) : Option (Bool × Unit) :=
  cond (decide ((1048576 : Int) < (aW_0.length : Int)))
  (some (true, (())))
  ((laws_toIntS big aW_0).bind fun rq1 =>
  (spec_MembersOf rq1.1).bind fun rq2 =>
  (laws_toIntS big aW_0).bind fun rq3 =>
  (impl_MembersOf rq3.1).bind fun rq4 =>
  (laws_eqIntSS big rq4.1.1 rq2.1.1).bind fun rq5 =>
  cond (!rq5.1)
  (some (false, (())))
  (cond (((((), rq4.1.2).2).1) != ((((), rq2.1.2).2).1))
  (some (false, (())))
  ((laws_toIntS big aW_0).bind fun rq6 =>
  (laws_eqIntS big rq3.1 rq6.1).bind fun rq7 =>
  cond (!rq7.1)
  (some (false, (())))
  ((laws_markIntS big rq3.1 (1 : Int)).bind fun rq8 =>
  cond (decide (rq8.1 < (0 : Int)))
  (some (false, (())))
  ((laws_eqIntSS big rq4.1.1 rq2.1.1).bind fun rq9 =>
  cond (!rq9.1)
  (some (false, (())))
  (cond (((((), rq4.1.2).2).1) != ((((), rq2.1.2).2).1))
  (some (false, (())))
  ((laws_markIntSS big rq4.1.1 (1 : Int)).bind fun rq10 =>
  (laws_heldIntSS big rq10.2.1 (1 : Int)).bind fun rq11 =>
  cond (decide (rq11.1 < (0 : Int)))
  (some (false, (())))
  (cond (decide (rq11.1 ≠ rq10.1))
  (some (false, (())))
  ((laws_toIntS big aW_0).bind fun rq12 =>
  (impl_MembersOf rq12.1).bind fun rq13 =>
  (laws_eqIntSS big rq13.1.1 rq2.1.1).bind fun rq14 =>
  cond (!rq14.1)
  (some (false, (())))
  (cond (((((), rq13.1.2).2).1) != ((((), rq2.1.2).2).1))
  (some (false, (())))
  ((laws_heldIntSS big rq10.2.1 (1 : Int)).bind fun rq15 =>
  cond (decide (rq15.1 < (0 : Int)))
  (some (false, (())))
  (cond (decide (rq15.1 ≠ rq10.1))
  (some (false, (())))
  (some (true, (())))))))))))))))
def laws_FnExactMembersOf (aW_0 : (List Int)) : Option (Bool × Unit) := laws_FnExactMembersOf_s aW_0
def S_laws_FnExactMembersOf : Sig := { a := (.pair (.sl I) .unit), md := [0], mf := [], m := .unit, r := .bool, rf := .i, f := fun x => laws_FnExactMembersOf x.1 }
def A_laws_FnExactMembersOf : Cfg := mkCfg tab [(16, S_laws_toIntS), (24, S_spec_MembersOf), (25, S_impl_MembersOf), (26, S_laws_eqIntSS), (18, S_laws_eqIntS), (27, S_laws_markIntS), (28, S_laws_markIntSS), (29, S_laws_heldIntSS)] []
theorem run_laws_FnExactMembersOf (N : Nat) (x : (S_laws_FnExactMembersOf).a.den) : runF (A_laws_FnExactMembersOf) N Try.f5 S_laws_FnExactMembersOf x = laws_FnExactMembersOf x.1 := by kernel_rfl
theorem fn_laws_FnExactMembersOf : FnOk Try.prog 5 := ⟨_, Try.func5, by kernel_rfl, by kernel_rfl⟩
theorem good_laws_FnExactMembersOf : Gx.Good Try.prog 5 S_laws_FnExactMembersOf := good_of_run Try.func5 (of_decide_eq_true (by kernel_rfl)) fun x r h => ⟨A_laws_FnExactMembersOf, big, mkCfg_ok tabOk, mkCfg_sigs (show SigsOk Try.prog [(16, S_laws_toIntS), (24, S_spec_MembersOf), (25, S_impl_MembersOf), (26, S_laws_eqIntSS), (18, S_laws_eqIntS), (27, S_laws_markIntS), (28, S_laws_markIntSS), (29, S_laws_heldIntSS)] from ⟨⟨fn_laws_toIntS, good_laws_toIntS⟩, ⟨fn_spec_MembersOf, good_spec_MembersOf⟩, ⟨fn_impl_MembersOf, good_impl_MembersOf⟩, ⟨fn_laws_eqIntSS, good_laws_eqIntSS⟩, ⟨fn_laws_eqIntS, good_laws_eqIntS⟩, ⟨fn_laws_markIntS, good_laws_markIntS⟩, ⟨fn_laws_markIntSS, good_laws_markIntSS⟩, ⟨fn_laws_heldIntSS, good_laws_heldIntSS⟩, trivial⟩), (run_laws_FnExactMembersOf big x).trans h⟩
end Go.Proofs.Ytbegnofapodldaa
