import Derived.Test.YtbegnofapodldaaGxGen
import Derived.Test.YtbegnofapodldaaRows
import Derived.Test.YtbegnofapodldaaChecked
import Derived.KernelRfl
set_option maxRecDepth 100000
set_option linter.unusedVariables false
namespace Go.Proofs.Ytbegnofapodldaa
open Go Go.Gx Go.Proofs

abbrev I := Ty.int .i64
def tab : Tab := { es := [(22, I, .i), (41, (.sl .bool), (.o .i)), (71, .bool, .i)], ts := [(3, I, .i), (4, .bool, .i), (22, (.sl I), (.o .i)), (41, (.sl (.sl .bool)), (.o (.o .i))), (71, (.sl .bool), (.o .i))], fs := [], ars := [] }
theorem tabOk : tab.chk Try.prog = true := by kernel_rfl

/-! laws_szBoolS -/
def laws_szBoolS_s (a_0 : (List Bool)) (left_1 : Int) : Option (Int × Unit) :=
  cond (decide ((IntKind.i64.wrap (left_1 - (a_0.length : Int))) < (0 : Int)))
  (some ((-1 : Int), (())))
  (some (IntKind.i64.wrap (left_1 - (a_0.length : Int)), (())))
def laws_szBoolS (a_0 : (List Bool)) (left_1 : Int) : Option (Int × Unit) := laws_szBoolS_s a_0 left_1
def S_laws_szBoolS : Sig := { a := (.pair (.sl .bool) (.pair I .unit)), md := [0, 0], mf := [], m := .unit, r := I, rf := .i, f := fun x => laws_szBoolS x.1 x.2.1 }
def A_laws_szBoolS : Cfg := mkCfg tab [] []
theorem run_laws_szBoolS (N : Nat) (x : (S_laws_szBoolS).a.den) : runF (A_laws_szBoolS) N Try.f67 S_laws_szBoolS x = laws_szBoolS x.1 x.2.1 := by kernel_rfl
theorem fn_laws_szBoolS : FnOk Try.prog 67 := ⟨_, Try.func67, by kernel_rfl, by kernel_rfl⟩
theorem good_laws_szBoolS : Gx.Good Try.prog 67 S_laws_szBoolS := good_of_run Try.func67 (of_decide_eq_true (by kernel_rfl)) fun x r h => ⟨A_laws_szBoolS, big, mkCfg_ok tabOk, mkCfg_sigs (show SigsOk Try.prog [] from trivial), (run_laws_szBoolS big x).trans h⟩

/-! laws_szBoolSS -/
def laws_szBoolSS_b5 (rec : (List (List Bool)) → Int → Int → Option (Int × Unit)) (k : Int → Option (Int × Unit)) (a0 : (List (List Bool))) (left1 : Int) (i5 : Int) : Option (Int × Unit) :=
  cond (decide (i5 < (a0.length : Int)))
  ((atI a0 i5).bind fun xq1 =>
  (laws_szBoolS xq1 left1).bind fun rq2 =>
  cond (decide (rq2.1 < (0 : Int)))
  (some ((-1 : Int), (())))
  (rec a0 rq2.1 (IntKind.i64.wrap (i5 + (1 : Int)))))
  (k left1)
def laws_szBoolSS_a5 (left1 : Int) : Option (Int × Unit) :=
  some (left1, (()))
def laws_szBoolSS_s (L5 : (List (List Bool)) → Int → Int → Option (Int × Unit)) (a_0 : (List (List Bool))) (left_1 : Int) : Option (Int × Unit) :=
  cond (decide ((IntKind.i64.wrap (left_1 - (a_0.length : Int))) < (0 : Int)))
  (some ((-1 : Int), (())))
  (L5 a_0 (IntKind.i64.wrap (left_1 - (a_0.length : Int))) (0 : Int))
def laws_szBoolSS_l5 (N : Nat) (k : Int → Option (Int × Unit)) : Nat → (List (List Bool)) → Int → Int → Option (Int × Unit)
  | 0, _, _, _ => none
  | m + 1, a0, left1, i5 => laws_szBoolSS_b5 (laws_szBoolSS_l5 N k m) k a0 left1 i5
def laws_szBoolSS_F5 (N : Nat) (a0 : (List (List Bool))) (left1 : Int) (i5 : Int) : Option (Int × Unit) := laws_szBoolSS_l5 N (laws_szBoolSS_a5) N a0 left1 i5
def laws_szBoolSS (N : Nat) (a_0 : (List (List Bool))) (left_1 : Int) : Option (Int × Unit) := laws_szBoolSS_s (laws_szBoolSS_F5 N) a_0 left_1
def S_laws_szBoolSS : Sig := { a := (.pair (.sl (.sl .bool)) (.pair I .unit)), md := [0, 0], mf := [], m := .unit, r := I, rf := .i, f := fun x => laws_szBoolSS big x.1 x.2.1 }
def A_laws_szBoolSS : Cfg := mkCfg tab [(67, S_laws_szBoolS)] [(10, [.as (.sl (.sl .bool)) .i, .as I .i, .drop, .drop, .drop, .as I .i]), (21, [.drop, .as I .i])]
def laws_szBoolSS_R5 (cd : Code) (N n : Nat) (K : Ex → St → Option (Int × Unit)) (a0 : (List (List Bool))) (left1 : Int) (i5 : Int) : Option (Int × Unit) := iter ((A_laws_szBoolSS).shape 10) (run (A_laws_szBoolSS) N cd) n ([.val (.sl (.sl .bool)) .i a0, .val I .i left1, .u, .u, .u, .val I .i i5] ++ List.replicate 21 .u) K
theorem laws_szBoolSS_step5 (N : Nat) (m : Nat) (kX : St → Option (Int × Unit)) (kO : Nat → St → Option (Int × Unit)) (a0 : (List (List Bool))) (left1 : Int) (i5 : Int) : laws_szBoolSS_R5 (codeAt Try.f30 [1, 1, 1, 0, 1, 0, 0]) N (m + 1) (exK (finish (A_laws_szBoolSS) S_laws_szBoolSS Try.f30.results.toList) 0 ((A_laws_szBoolSS).shape 21) kX kO) a0 left1 i5 = laws_szBoolSS_b5 (laws_szBoolSS_R5 (codeAt Try.f30 [1, 1, 1, 0, 1, 0, 0]) N m (exK (finish (A_laws_szBoolSS) S_laws_szBoolSS Try.f30.results.toList) 0 ((A_laws_szBoolSS).shape 21) kX kO)) (fun (left1 : Int) => kX ([.u, .val I .i left1] ++ List.replicate 25 .u)) a0 left1 i5 := by kernel_rfl
theorem laws_szBoolSS_iter5 (N : Nat) (kX : St → Option (Int × Unit)) (kO : Nat → St → Option (Int × Unit)) : ∀ (n : Nat) (a0 : (List (List Bool))) (left1 : Int) (i5 : Int), laws_szBoolSS_R5 (codeAt Try.f30 [1, 1, 1, 0, 1, 0, 0]) N n (exK (finish (A_laws_szBoolSS) S_laws_szBoolSS Try.f30.results.toList) 0 ((A_laws_szBoolSS).shape 21) kX kO) a0 left1 i5 = laws_szBoolSS_l5 N (fun (left1 : Int) => kX ([.u, .val I .i left1] ++ List.replicate 25 .u)) n a0 left1 i5
  | 0, _, _, _ => rfl
  | m + 1, a0, left1, i5 => by
    have hrec : laws_szBoolSS_R5 (codeAt Try.f30 [1, 1, 1, 0, 1, 0, 0]) N m (exK (finish (A_laws_szBoolSS) S_laws_szBoolSS Try.f30.results.toList) 0 ((A_laws_szBoolSS).shape 21) kX kO) = (laws_szBoolSS_l5 N (fun (left1 : Int) => kX ([.u, .val I .i left1] ++ List.replicate 25 .u)) m) := (funext fun a0 => (funext fun left1 => (funext fun i5 => laws_szBoolSS_iter5 N kX kO m a0 left1 i5)))
    refine (laws_szBoolSS_step5 N m kX kO a0 left1 i5).trans ?_
    rw [hrec]
    rfl
theorem laws_szBoolSS_after5 (N : Nat) (left1 : Int) : (fun st' => run (A_laws_szBoolSS) N (codeAt Try.f30 [1, 1, 1, 1]) st' (finish (A_laws_szBoolSS) S_laws_szBoolSS Try.f30.results.toList)) ([.u, .val I .i left1] ++ List.replicate 25 .u) = laws_szBoolSS_a5 left1 := by kernel_rfl
theorem laws_szBoolSS_in5 (N : Nat) (a0 : (List (List Bool))) (left1 : Int) (i5 : Int) : laws_szBoolSS_R5 (codeAt Try.f30 [1, 1, 1, 0, 1, 0, 0]) N N (blockK 0 (seqK ((A_laws_szBoolSS).shape 21) (run (A_laws_szBoolSS) N (codeAt Try.f30 [1, 1, 1, 1])) (finish (A_laws_szBoolSS) S_laws_szBoolSS Try.f30.results.toList))) a0 left1 i5 = laws_szBoolSS_F5 N a0 left1 i5 :=
  have h : (fun (left1 : Int) => (fun st' => run (A_laws_szBoolSS) N (codeAt Try.f30 [1, 1, 1, 1]) st' (finish (A_laws_szBoolSS) S_laws_szBoolSS Try.f30.results.toList)) ([.u, .val I .i left1] ++ List.replicate 25 .u)) = (laws_szBoolSS_a5) := (funext fun left1 => laws_szBoolSS_after5 N left1)
  have e : laws_szBoolSS_R5 (codeAt Try.f30 [1, 1, 1, 0, 1, 0, 0]) N N (blockK 0 (seqK ((A_laws_szBoolSS).shape 21) (run (A_laws_szBoolSS) N (codeAt Try.f30 [1, 1, 1, 1])) (finish (A_laws_szBoolSS) S_laws_szBoolSS Try.f30.results.toList))) a0 left1 i5 = laws_szBoolSS_R5 (codeAt Try.f30 [1, 1, 1, 0, 1, 0, 0]) N N (exK (finish (A_laws_szBoolSS) S_laws_szBoolSS Try.f30.results.toList) 0 ((A_laws_szBoolSS).shape 21) (fun st' => run (A_laws_szBoolSS) N (codeAt Try.f30 [1, 1, 1, 1]) st' (finish (A_laws_szBoolSS) S_laws_szBoolSS Try.f30.results.toList)) (fun j st => (blockK 0 (seqK ((A_laws_szBoolSS).shape 21) (run (A_laws_szBoolSS) N (codeAt Try.f30 [1, 1, 1, 1])) (finish (A_laws_szBoolSS) S_laws_szBoolSS Try.f30.results.toList))) (.exit j) st)) a0 left1 i5 := iter_ex (fun st => by kernel_rfl) (fun st => by kernel_rfl)
  (e.trans (laws_szBoolSS_iter5 N (fun st' => run (A_laws_szBoolSS) N (codeAt Try.f30 [1, 1, 1, 1]) st' (finish (A_laws_szBoolSS) S_laws_szBoolSS Try.f30.results.toList)) (fun j st => (blockK 0 (seqK ((A_laws_szBoolSS).shape 21) (run (A_laws_szBoolSS) N (codeAt Try.f30 [1, 1, 1, 1])) (finish (A_laws_szBoolSS) S_laws_szBoolSS Try.f30.results.toList))) (.exit j) st) N a0 left1 i5)).trans (congrArg (fun k => laws_szBoolSS_l5 N k N a0 left1 i5) h)
theorem run0_laws_szBoolSS (N : Nat) (x : (S_laws_szBoolSS).a.den) : runF (A_laws_szBoolSS) N Try.f30 S_laws_szBoolSS x = (laws_szBoolSS_s (laws_szBoolSS_R5 (codeAt Try.f30 [1, 1, 1, 0, 1, 0, 0]) N N (blockK 0 (seqK ((A_laws_szBoolSS).shape 21) (run (A_laws_szBoolSS) N (codeAt Try.f30 [1, 1, 1, 1])) (finish (A_laws_szBoolSS) S_laws_szBoolSS Try.f30.results.toList)))) x.1 x.2.1) := by kernel_rfl
theorem run_laws_szBoolSS (N : Nat) (x : (S_laws_szBoolSS).a.den) : runF (A_laws_szBoolSS) N Try.f30 S_laws_szBoolSS x = laws_szBoolSS N x.1 x.2.1 := by
  refine (run0_laws_szBoolSS N x).trans ?_
  rw [(funext fun a0 => (funext fun left1 => (funext fun i5 => laws_szBoolSS_in5 N a0 left1 i5)))]
  rfl
theorem fn_laws_szBoolSS : FnOk Try.prog 30 := ⟨_, Try.func30, by kernel_rfl, by kernel_rfl⟩
theorem good_laws_szBoolSS : Gx.Good Try.prog 30 S_laws_szBoolSS := good_of_run Try.func30 (of_decide_eq_true (by kernel_rfl)) fun x r h => ⟨A_laws_szBoolSS, big, mkCfg_ok tabOk, mkCfg_sigs (show SigsOk Try.prog [(67, S_laws_szBoolS)] from ⟨⟨fn_laws_szBoolS, good_laws_szBoolS⟩, trivial⟩), (run_laws_szBoolSS big x).trans h⟩

/-! laws_toBoolS -/
def laws_toBoolS_b3 (rec : (List Bool) → (List Bool) → Int → Option ((List Bool) × Unit)) (k : (List Bool) → Option ((List Bool) × Unit)) (a0 : (List Bool)) (out3 : (List Bool)) (i4 : Int) : Option ((List Bool) × Unit) :=
  cond (decide (i4 < (a0.length : Int)))
  ((atI a0 i4).bind fun xq3 =>
  (atI out3 i4).bind fun _ =>
  (out3[i4.toNat]?).bind fun xq4 =>
  rec a0 (out3.set i4.toNat xq3) (IntKind.i64.wrap (i4 + (1 : Int))))
  (k out3)
def laws_toBoolS_a3 (out3 : (List Bool)) : Option ((List Bool) × Unit) :=
  some (out3, (()))
def laws_toBoolS_s (L3 : (List Bool) → (List Bool) → Int → Option ((List Bool) × Unit)) (a_0 : (List Bool)) : Option ((List Bool) × Unit) :=
  (mkI false (a_0.length : Int)).bind fun xq1 => (mkI false (a_0.length : Int)).bind fun xq2 => cond (decide ((a_0.length : Int) ≤ (a_0.length : Int)))
  (L3 a_0 xq2 (0 : Int))
  none
def laws_toBoolS_l3 (N : Nat) (k : (List Bool) → Option ((List Bool) × Unit)) : Nat → (List Bool) → (List Bool) → Int → Option ((List Bool) × Unit)
  | 0, _, _, _ => none
  | m + 1, a0, out3, i4 => laws_toBoolS_b3 (laws_toBoolS_l3 N k m) k a0 out3 i4
def laws_toBoolS_F3 (N : Nat) (a0 : (List Bool)) (out3 : (List Bool)) (i4 : Int) : Option ((List Bool) × Unit) := laws_toBoolS_l3 N (laws_toBoolS_a3) N a0 out3 i4
def laws_toBoolS (N : Nat) (a_0 : (List Bool)) : Option ((List Bool) × Unit) := laws_toBoolS_s (laws_toBoolS_F3 N) a_0
def S_laws_toBoolS : Sig := { a := (.pair (.sl .bool) .unit), md := [0], mf := [], m := .unit, r := (.sl .bool), rf := (.o .i), f := fun x => laws_toBoolS big x.1 }
def A_laws_toBoolS : Cfg := mkCfg tab [] [(6, [.as (.sl .bool) .i, .drop, .drop, .as (.sl .bool) (.o .i), .as I .i]), (13, [.drop, .drop, .drop, .as (.sl .bool) (.o .i)])]
def laws_toBoolS_R3 (cd : Code) (N n : Nat) (K : Ex → St → Option ((List Bool) × Unit)) (a0 : (List Bool)) (out3 : (List Bool)) (i4 : Int) : Option ((List Bool) × Unit) := iter ((A_laws_toBoolS).shape 6) (run (A_laws_toBoolS) N cd) n ([.val (.sl .bool) .i a0, .u, .u, .val (.sl .bool) (.o .i) out3, .val I .i i4] ++ List.replicate 17 .u) K
theorem laws_toBoolS_step3 (N : Nat) (m : Nat) (kX : St → Option ((List Bool) × Unit)) (kO : Nat → St → Option ((List Bool) × Unit)) (a0 : (List Bool)) (out3 : (List Bool)) (i4 : Int) : laws_toBoolS_R3 (codeAt Try.f71 [1, 1, 0, 1, 0, 0]) N (m + 1) (exK (finish (A_laws_toBoolS) S_laws_toBoolS Try.f71.results.toList) 0 ((A_laws_toBoolS).shape 13) kX kO) a0 out3 i4 = laws_toBoolS_b3 (laws_toBoolS_R3 (codeAt Try.f71 [1, 1, 0, 1, 0, 0]) N m (exK (finish (A_laws_toBoolS) S_laws_toBoolS Try.f71.results.toList) 0 ((A_laws_toBoolS).shape 13) kX kO)) (fun (out3 : (List Bool)) => kX ([.u, .u, .u, .val (.sl .bool) (.o .i) out3] ++ List.replicate 18 .u)) a0 out3 i4 := by kernel_rfl
theorem laws_toBoolS_iter3 (N : Nat) (kX : St → Option ((List Bool) × Unit)) (kO : Nat → St → Option ((List Bool) × Unit)) : ∀ (n : Nat) (a0 : (List Bool)) (out3 : (List Bool)) (i4 : Int), laws_toBoolS_R3 (codeAt Try.f71 [1, 1, 0, 1, 0, 0]) N n (exK (finish (A_laws_toBoolS) S_laws_toBoolS Try.f71.results.toList) 0 ((A_laws_toBoolS).shape 13) kX kO) a0 out3 i4 = laws_toBoolS_l3 N (fun (out3 : (List Bool)) => kX ([.u, .u, .u, .val (.sl .bool) (.o .i) out3] ++ List.replicate 18 .u)) n a0 out3 i4
  | 0, _, _, _ => rfl
  | m + 1, a0, out3, i4 => by
    have hrec : laws_toBoolS_R3 (codeAt Try.f71 [1, 1, 0, 1, 0, 0]) N m (exK (finish (A_laws_toBoolS) S_laws_toBoolS Try.f71.results.toList) 0 ((A_laws_toBoolS).shape 13) kX kO) = (laws_toBoolS_l3 N (fun (out3 : (List Bool)) => kX ([.u, .u, .u, .val (.sl .bool) (.o .i) out3] ++ List.replicate 18 .u)) m) := (funext fun a0 => (funext fun out3 => (funext fun i4 => laws_toBoolS_iter3 N kX kO m a0 out3 i4)))
    refine (laws_toBoolS_step3 N m kX kO a0 out3 i4).trans ?_
    rw [hrec]
    rfl
theorem laws_toBoolS_after3 (N : Nat) (out3 : (List Bool)) : (fun st' => run (A_laws_toBoolS) N (codeAt Try.f71 [1, 1, 1]) st' (finish (A_laws_toBoolS) S_laws_toBoolS Try.f71.results.toList)) ([.u, .u, .u, .val (.sl .bool) (.o .i) out3] ++ List.replicate 18 .u) = laws_toBoolS_a3 out3 := by kernel_rfl
theorem laws_toBoolS_in3 (N : Nat) (a0 : (List Bool)) (out3 : (List Bool)) (i4 : Int) : laws_toBoolS_R3 (codeAt Try.f71 [1, 1, 0, 1, 0, 0]) N N (blockK 0 (seqK ((A_laws_toBoolS).shape 13) (run (A_laws_toBoolS) N (codeAt Try.f71 [1, 1, 1])) (finish (A_laws_toBoolS) S_laws_toBoolS Try.f71.results.toList))) a0 out3 i4 = laws_toBoolS_F3 N a0 out3 i4 :=
  have h : (fun (out3 : (List Bool)) => (fun st' => run (A_laws_toBoolS) N (codeAt Try.f71 [1, 1, 1]) st' (finish (A_laws_toBoolS) S_laws_toBoolS Try.f71.results.toList)) ([.u, .u, .u, .val (.sl .bool) (.o .i) out3] ++ List.replicate 18 .u)) = (laws_toBoolS_a3) := (funext fun out3 => laws_toBoolS_after3 N out3)
  have e : laws_toBoolS_R3 (codeAt Try.f71 [1, 1, 0, 1, 0, 0]) N N (blockK 0 (seqK ((A_laws_toBoolS).shape 13) (run (A_laws_toBoolS) N (codeAt Try.f71 [1, 1, 1])) (finish (A_laws_toBoolS) S_laws_toBoolS Try.f71.results.toList))) a0 out3 i4 = laws_toBoolS_R3 (codeAt Try.f71 [1, 1, 0, 1, 0, 0]) N N (exK (finish (A_laws_toBoolS) S_laws_toBoolS Try.f71.results.toList) 0 ((A_laws_toBoolS).shape 13) (fun st' => run (A_laws_toBoolS) N (codeAt Try.f71 [1, 1, 1]) st' (finish (A_laws_toBoolS) S_laws_toBoolS Try.f71.results.toList)) (fun j st => (blockK 0 (seqK ((A_laws_toBoolS).shape 13) (run (A_laws_toBoolS) N (codeAt Try.f71 [1, 1, 1])) (finish (A_laws_toBoolS) S_laws_toBoolS Try.f71.results.toList))) (.exit j) st)) a0 out3 i4 := iter_ex (fun st => by kernel_rfl) (fun st => by kernel_rfl)
  (e.trans (laws_toBoolS_iter3 N (fun st' => run (A_laws_toBoolS) N (codeAt Try.f71 [1, 1, 1]) st' (finish (A_laws_toBoolS) S_laws_toBoolS Try.f71.results.toList)) (fun j st => (blockK 0 (seqK ((A_laws_toBoolS).shape 13) (run (A_laws_toBoolS) N (codeAt Try.f71 [1, 1, 1])) (finish (A_laws_toBoolS) S_laws_toBoolS Try.f71.results.toList))) (.exit j) st) N a0 out3 i4)).trans (congrArg (fun k => laws_toBoolS_l3 N k N a0 out3 i4) h)
theorem run0_laws_toBoolS (N : Nat) (x : (S_laws_toBoolS).a.den) : runF (A_laws_toBoolS) N Try.f71 S_laws_toBoolS x = (laws_toBoolS_s (laws_toBoolS_R3 (codeAt Try.f71 [1, 1, 0, 1, 0, 0]) N N (blockK 0 (seqK ((A_laws_toBoolS).shape 13) (run (A_laws_toBoolS) N (codeAt Try.f71 [1, 1, 1])) (finish (A_laws_toBoolS) S_laws_toBoolS Try.f71.results.toList)))) x.1) := by kernel_rfl
theorem run_laws_toBoolS (N : Nat) (x : (S_laws_toBoolS).a.den) : runF (A_laws_toBoolS) N Try.f71 S_laws_toBoolS x = laws_toBoolS N x.1 := by
  refine (run0_laws_toBoolS N x).trans ?_
  rw [(funext fun a0 => (funext fun out3 => (funext fun i4 => laws_toBoolS_in3 N a0 out3 i4)))]
  rfl
theorem fn_laws_toBoolS : FnOk Try.prog 71 := ⟨_, Try.func71, by kernel_rfl, by kernel_rfl⟩
theorem good_laws_toBoolS : Gx.Good Try.prog 71 S_laws_toBoolS := good_of_run Try.func71 (of_decide_eq_true (by kernel_rfl)) fun x r h => ⟨A_laws_toBoolS, big, mkCfg_ok tabOk, mkCfg_sigs (show SigsOk Try.prog [] from trivial), (run_laws_toBoolS big x).trans h⟩

/-! laws_toBoolSS -/
def laws_toBoolSS_b3 (rec : (List (List Bool)) → (List (List Bool)) → Int → Option ((List (List Bool)) × Unit)) (k : (List (List Bool)) → Option ((List (List Bool)) × Unit)) (a0 : (List (List Bool))) (out3 : (List (List Bool))) (i4 : Int) : Option ((List (List Bool)) × Unit) :=
  cond (decide (i4 < (a0.length : Int)))
  ((atI a0 i4).bind fun xq3 =>
  (laws_toBoolS big xq3).bind fun rq4 =>
  (atI out3 i4).bind fun _ =>
  (out3[i4.toNat]?).bind fun xq5 =>
  rec a0 (out3.set i4.toNat rq4.1) (IntKind.i64.wrap (i4 + (1 : Int))))
  (k out3)
def laws_toBoolSS_a3 (out3 : (List (List Bool))) : Option ((List (List Bool)) × Unit) :=
  some (out3, (()))
def laws_toBoolSS_s (L3 : (List (List Bool)) → (List (List Bool)) → Int → Option ((List (List Bool)) × Unit)) (a_0 : (List (List Bool))) : Option ((List (List Bool)) × Unit) :=
  (mkI ([] : (List Bool)) (a_0.length : Int)).bind fun xq1 => (mkI ([] : (List Bool)) (a_0.length : Int)).bind fun xq2 => cond (decide ((a_0.length : Int) ≤ (a_0.length : Int)))
  (L3 a_0 xq2 (0 : Int))
  none
def laws_toBoolSS_l3 (N : Nat) (k : (List (List Bool)) → Option ((List (List Bool)) × Unit)) : Nat → (List (List Bool)) → (List (List Bool)) → Int → Option ((List (List Bool)) × Unit)
  | 0, _, _, _ => none
  | m + 1, a0, out3, i4 => laws_toBoolSS_b3 (laws_toBoolSS_l3 N k m) k a0 out3 i4
def laws_toBoolSS_F3 (N : Nat) (a0 : (List (List Bool))) (out3 : (List (List Bool))) (i4 : Int) : Option ((List (List Bool)) × Unit) := laws_toBoolSS_l3 N (laws_toBoolSS_a3) N a0 out3 i4
def laws_toBoolSS (N : Nat) (a_0 : (List (List Bool))) : Option ((List (List Bool)) × Unit) := laws_toBoolSS_s (laws_toBoolSS_F3 N) a_0
def S_laws_toBoolSS : Sig := { a := (.pair (.sl (.sl .bool)) .unit), md := [0], mf := [], m := .unit, r := (.sl (.sl .bool)), rf := (.o (.o .i)), f := fun x => laws_toBoolSS big x.1 }
def A_laws_toBoolSS : Cfg := mkCfg tab [(71, S_laws_toBoolS)] [(6, [.as (.sl (.sl .bool)) .i, .drop, .drop, .as (.sl (.sl .bool)) (.o (.o .i)), .as I .i]), (13, [.drop, .drop, .drop, .as (.sl (.sl .bool)) (.o (.o .i))])]
def laws_toBoolSS_R3 (cd : Code) (N n : Nat) (K : Ex → St → Option ((List (List Bool)) × Unit)) (a0 : (List (List Bool))) (out3 : (List (List Bool))) (i4 : Int) : Option ((List (List Bool)) × Unit) := iter ((A_laws_toBoolSS).shape 6) (run (A_laws_toBoolSS) N cd) n ([.val (.sl (.sl .bool)) .i a0, .u, .u, .val (.sl (.sl .bool)) (.o (.o .i)) out3, .val I .i i4] ++ List.replicate 18 .u) K
theorem laws_toBoolSS_step3 (N : Nat) (m : Nat) (kX : St → Option ((List (List Bool)) × Unit)) (kO : Nat → St → Option ((List (List Bool)) × Unit)) (a0 : (List (List Bool))) (out3 : (List (List Bool))) (i4 : Int) : laws_toBoolSS_R3 (codeAt Try.f32 [1, 1, 0, 1, 0, 0]) N (m + 1) (exK (finish (A_laws_toBoolSS) S_laws_toBoolSS Try.f32.results.toList) 0 ((A_laws_toBoolSS).shape 13) kX kO) a0 out3 i4 = laws_toBoolSS_b3 (laws_toBoolSS_R3 (codeAt Try.f32 [1, 1, 0, 1, 0, 0]) N m (exK (finish (A_laws_toBoolSS) S_laws_toBoolSS Try.f32.results.toList) 0 ((A_laws_toBoolSS).shape 13) kX kO)) (fun (out3 : (List (List Bool))) => kX ([.u, .u, .u, .val (.sl (.sl .bool)) (.o (.o .i)) out3] ++ List.replicate 19 .u)) a0 out3 i4 := by kernel_rfl
theorem laws_toBoolSS_iter3 (N : Nat) (kX : St → Option ((List (List Bool)) × Unit)) (kO : Nat → St → Option ((List (List Bool)) × Unit)) : ∀ (n : Nat) (a0 : (List (List Bool))) (out3 : (List (List Bool))) (i4 : Int), laws_toBoolSS_R3 (codeAt Try.f32 [1, 1, 0, 1, 0, 0]) N n (exK (finish (A_laws_toBoolSS) S_laws_toBoolSS Try.f32.results.toList) 0 ((A_laws_toBoolSS).shape 13) kX kO) a0 out3 i4 = laws_toBoolSS_l3 N (fun (out3 : (List (List Bool))) => kX ([.u, .u, .u, .val (.sl (.sl .bool)) (.o (.o .i)) out3] ++ List.replicate 19 .u)) n a0 out3 i4
  | 0, _, _, _ => rfl
  | m + 1, a0, out3, i4 => by
    have hrec : laws_toBoolSS_R3 (codeAt Try.f32 [1, 1, 0, 1, 0, 0]) N m (exK (finish (A_laws_toBoolSS) S_laws_toBoolSS Try.f32.results.toList) 0 ((A_laws_toBoolSS).shape 13) kX kO) = (laws_toBoolSS_l3 N (fun (out3 : (List (List Bool))) => kX ([.u, .u, .u, .val (.sl (.sl .bool)) (.o (.o .i)) out3] ++ List.replicate 19 .u)) m) := (funext fun a0 => (funext fun out3 => (funext fun i4 => laws_toBoolSS_iter3 N kX kO m a0 out3 i4)))
    refine (laws_toBoolSS_step3 N m kX kO a0 out3 i4).trans ?_
    rw [hrec]
    rfl
theorem laws_toBoolSS_after3 (N : Nat) (out3 : (List (List Bool))) : (fun st' => run (A_laws_toBoolSS) N (codeAt Try.f32 [1, 1, 1]) st' (finish (A_laws_toBoolSS) S_laws_toBoolSS Try.f32.results.toList)) ([.u, .u, .u, .val (.sl (.sl .bool)) (.o (.o .i)) out3] ++ List.replicate 19 .u) = laws_toBoolSS_a3 out3 := by kernel_rfl
theorem laws_toBoolSS_in3 (N : Nat) (a0 : (List (List Bool))) (out3 : (List (List Bool))) (i4 : Int) : laws_toBoolSS_R3 (codeAt Try.f32 [1, 1, 0, 1, 0, 0]) N N (blockK 0 (seqK ((A_laws_toBoolSS).shape 13) (run (A_laws_toBoolSS) N (codeAt Try.f32 [1, 1, 1])) (finish (A_laws_toBoolSS) S_laws_toBoolSS Try.f32.results.toList))) a0 out3 i4 = laws_toBoolSS_F3 N a0 out3 i4 :=
  have h : (fun (out3 : (List (List Bool))) => (fun st' => run (A_laws_toBoolSS) N (codeAt Try.f32 [1, 1, 1]) st' (finish (A_laws_toBoolSS) S_laws_toBoolSS Try.f32.results.toList)) ([.u, .u, .u, .val (.sl (.sl .bool)) (.o (.o .i)) out3] ++ List.replicate 19 .u)) = (laws_toBoolSS_a3) := (funext fun out3 => laws_toBoolSS_after3 N out3)
  have e : laws_toBoolSS_R3 (codeAt Try.f32 [1, 1, 0, 1, 0, 0]) N N (blockK 0 (seqK ((A_laws_toBoolSS).shape 13) (run (A_laws_toBoolSS) N (codeAt Try.f32 [1, 1, 1])) (finish (A_laws_toBoolSS) S_laws_toBoolSS Try.f32.results.toList))) a0 out3 i4 = laws_toBoolSS_R3 (codeAt Try.f32 [1, 1, 0, 1, 0, 0]) N N (exK (finish (A_laws_toBoolSS) S_laws_toBoolSS Try.f32.results.toList) 0 ((A_laws_toBoolSS).shape 13) (fun st' => run (A_laws_toBoolSS) N (codeAt Try.f32 [1, 1, 1]) st' (finish (A_laws_toBoolSS) S_laws_toBoolSS Try.f32.results.toList)) (fun j st => (blockK 0 (seqK ((A_laws_toBoolSS).shape 13) (run (A_laws_toBoolSS) N (codeAt Try.f32 [1, 1, 1])) (finish (A_laws_toBoolSS) S_laws_toBoolSS Try.f32.results.toList))) (.exit j) st)) a0 out3 i4 := iter_ex (fun st => by kernel_rfl) (fun st => by kernel_rfl)
  (e.trans (laws_toBoolSS_iter3 N (fun st' => run (A_laws_toBoolSS) N (codeAt Try.f32 [1, 1, 1]) st' (finish (A_laws_toBoolSS) S_laws_toBoolSS Try.f32.results.toList)) (fun j st => (blockK 0 (seqK ((A_laws_toBoolSS).shape 13) (run (A_laws_toBoolSS) N (codeAt Try.f32 [1, 1, 1])) (finish (A_laws_toBoolSS) S_laws_toBoolSS Try.f32.results.toList))) (.exit j) st) N a0 out3 i4)).trans (congrArg (fun k => laws_toBoolSS_l3 N k N a0 out3 i4) h)
theorem run0_laws_toBoolSS (N : Nat) (x : (S_laws_toBoolSS).a.den) : runF (A_laws_toBoolSS) N Try.f32 S_laws_toBoolSS x = (laws_toBoolSS_s (laws_toBoolSS_R3 (codeAt Try.f32 [1, 1, 0, 1, 0, 0]) N N (blockK 0 (seqK ((A_laws_toBoolSS).shape 13) (run (A_laws_toBoolSS) N (codeAt Try.f32 [1, 1, 1])) (finish (A_laws_toBoolSS) S_laws_toBoolSS Try.f32.results.toList)))) x.1) := by kernel_rfl
theorem run_laws_toBoolSS (N : Nat) (x : (S_laws_toBoolSS).a.den) : runF (A_laws_toBoolSS) N Try.f32 S_laws_toBoolSS x = laws_toBoolSS N x.1 := by
  refine (run0_laws_toBoolSS N x).trans ?_
  rw [(funext fun a0 => (funext fun out3 => (funext fun i4 => laws_toBoolSS_in3 N a0 out3 i4)))]
  rfl
theorem fn_laws_toBoolSS : FnOk Try.prog 32 := ⟨_, Try.func32, by kernel_rfl, by kernel_rfl⟩
theorem good_laws_toBoolSS : Gx.Good Try.prog 32 S_laws_toBoolSS := good_of_run Try.func32 (of_decide_eq_true (by kernel_rfl)) fun x r h => ⟨A_laws_toBoolSS, big, mkCfg_ok tabOk, mkCfg_sigs (show SigsOk Try.prog [(71, S_laws_toBoolS)] from ⟨⟨fn_laws_toBoolS, good_laws_toBoolS⟩, trivial⟩), (run_laws_toBoolSS big x).trans h⟩

/-! laws_toIntS -/
def laws_toIntS_b3 (rec : (List Int) → (List Int) → Int → Option ((List Int) × Unit)) (k : (List Int) → Option ((List Int) × Unit)) (a0 : (List Int)) (out3 : (List Int)) (i4 : Int) : Option ((List Int) × Unit) :=
  cond (decide (i4 < (a0.length : Int)))
  ((atI a0 i4).bind fun xq3 =>
  (atI out3 i4).bind fun _ =>
  (out3[i4.toNat]?).bind fun xq4 =>
  rec a0 (out3.set i4.toNat xq3) (IntKind.i64.wrap (i4 + (1 : Int))))
  (k out3)
def laws_toIntS_a3 (out3 : (List Int)) : Option ((List Int) × Unit) :=
  some (out3, (()))
def laws_toIntS_s (L3 : (List Int) → (List Int) → Int → Option ((List Int) × Unit)) (a_0 : (List Int)) : Option ((List Int) × Unit) :=
  (mkI (0 : Int) (a_0.length : Int)).bind fun xq1 => (mkI (0 : Int) (a_0.length : Int)).bind fun xq2 => cond (decide ((a_0.length : Int) ≤ (a_0.length : Int)))
  (L3 a_0 xq2 (0 : Int))
  none
def laws_toIntS_l3 (N : Nat) (k : (List Int) → Option ((List Int) × Unit)) : Nat → (List Int) → (List Int) → Int → Option ((List Int) × Unit)
  | 0, _, _, _ => none
  | m + 1, a0, out3, i4 => laws_toIntS_b3 (laws_toIntS_l3 N k m) k a0 out3 i4
def laws_toIntS_F3 (N : Nat) (a0 : (List Int)) (out3 : (List Int)) (i4 : Int) : Option ((List Int) × Unit) := laws_toIntS_l3 N (laws_toIntS_a3) N a0 out3 i4
def laws_toIntS (N : Nat) (a_0 : (List Int)) : Option ((List Int) × Unit) := laws_toIntS_s (laws_toIntS_F3 N) a_0
def S_laws_toIntS : Sig := { a := (.pair (.sl I) .unit), md := [0], mf := [], m := .unit, r := (.sl I), rf := (.o .i), f := fun x => laws_toIntS big x.1 }
def A_laws_toIntS : Cfg := mkCfg tab [] [(6, [.as (.sl I) .i, .drop, .drop, .as (.sl I) (.o .i), .as I .i]), (13, [.drop, .drop, .drop, .as (.sl I) (.o .i)])]
def laws_toIntS_R3 (cd : Code) (N n : Nat) (K : Ex → St → Option ((List Int) × Unit)) (a0 : (List Int)) (out3 : (List Int)) (i4 : Int) : Option ((List Int) × Unit) := iter ((A_laws_toIntS).shape 6) (run (A_laws_toIntS) N cd) n ([.val (.sl I) .i a0, .u, .u, .val (.sl I) (.o .i) out3, .val I .i i4] ++ List.replicate 17 .u) K
theorem laws_toIntS_step3 (N : Nat) (m : Nat) (kX : St → Option ((List Int) × Unit)) (kO : Nat → St → Option ((List Int) × Unit)) (a0 : (List Int)) (out3 : (List Int)) (i4 : Int) : laws_toIntS_R3 (codeAt Try.f16 [1, 1, 0, 1, 0, 0]) N (m + 1) (exK (finish (A_laws_toIntS) S_laws_toIntS Try.f16.results.toList) 0 ((A_laws_toIntS).shape 13) kX kO) a0 out3 i4 = laws_toIntS_b3 (laws_toIntS_R3 (codeAt Try.f16 [1, 1, 0, 1, 0, 0]) N m (exK (finish (A_laws_toIntS) S_laws_toIntS Try.f16.results.toList) 0 ((A_laws_toIntS).shape 13) kX kO)) (fun (out3 : (List Int)) => kX ([.u, .u, .u, .val (.sl I) (.o .i) out3] ++ List.replicate 18 .u)) a0 out3 i4 := by kernel_rfl
theorem laws_toIntS_iter3 (N : Nat) (kX : St → Option ((List Int) × Unit)) (kO : Nat → St → Option ((List Int) × Unit)) : ∀ (n : Nat) (a0 : (List Int)) (out3 : (List Int)) (i4 : Int), laws_toIntS_R3 (codeAt Try.f16 [1, 1, 0, 1, 0, 0]) N n (exK (finish (A_laws_toIntS) S_laws_toIntS Try.f16.results.toList) 0 ((A_laws_toIntS).shape 13) kX kO) a0 out3 i4 = laws_toIntS_l3 N (fun (out3 : (List Int)) => kX ([.u, .u, .u, .val (.sl I) (.o .i) out3] ++ List.replicate 18 .u)) n a0 out3 i4
  | 0, _, _, _ => rfl
  | m + 1, a0, out3, i4 => by
    have hrec : laws_toIntS_R3 (codeAt Try.f16 [1, 1, 0, 1, 0, 0]) N m (exK (finish (A_laws_toIntS) S_laws_toIntS Try.f16.results.toList) 0 ((A_laws_toIntS).shape 13) kX kO) = (laws_toIntS_l3 N (fun (out3 : (List Int)) => kX ([.u, .u, .u, .val (.sl I) (.o .i) out3] ++ List.replicate 18 .u)) m) := (funext fun a0 => (funext fun out3 => (funext fun i4 => laws_toIntS_iter3 N kX kO m a0 out3 i4)))
    refine (laws_toIntS_step3 N m kX kO a0 out3 i4).trans ?_
    rw [hrec]
    rfl
theorem laws_toIntS_after3 (N : Nat) (out3 : (List Int)) : (fun st' => run (A_laws_toIntS) N (codeAt Try.f16 [1, 1, 1]) st' (finish (A_laws_toIntS) S_laws_toIntS Try.f16.results.toList)) ([.u, .u, .u, .val (.sl I) (.o .i) out3] ++ List.replicate 18 .u) = laws_toIntS_a3 out3 := by kernel_rfl
theorem laws_toIntS_in3 (N : Nat) (a0 : (List Int)) (out3 : (List Int)) (i4 : Int) : laws_toIntS_R3 (codeAt Try.f16 [1, 1, 0, 1, 0, 0]) N N (blockK 0 (seqK ((A_laws_toIntS).shape 13) (run (A_laws_toIntS) N (codeAt Try.f16 [1, 1, 1])) (finish (A_laws_toIntS) S_laws_toIntS Try.f16.results.toList))) a0 out3 i4 = laws_toIntS_F3 N a0 out3 i4 :=
  have h : (fun (out3 : (List Int)) => (fun st' => run (A_laws_toIntS) N (codeAt Try.f16 [1, 1, 1]) st' (finish (A_laws_toIntS) S_laws_toIntS Try.f16.results.toList)) ([.u, .u, .u, .val (.sl I) (.o .i) out3] ++ List.replicate 18 .u)) = (laws_toIntS_a3) := (funext fun out3 => laws_toIntS_after3 N out3)
  have e : laws_toIntS_R3 (codeAt Try.f16 [1, 1, 0, 1, 0, 0]) N N (blockK 0 (seqK ((A_laws_toIntS).shape 13) (run (A_laws_toIntS) N (codeAt Try.f16 [1, 1, 1])) (finish (A_laws_toIntS) S_laws_toIntS Try.f16.results.toList))) a0 out3 i4 = laws_toIntS_R3 (codeAt Try.f16 [1, 1, 0, 1, 0, 0]) N N (exK (finish (A_laws_toIntS) S_laws_toIntS Try.f16.results.toList) 0 ((A_laws_toIntS).shape 13) (fun st' => run (A_laws_toIntS) N (codeAt Try.f16 [1, 1, 1]) st' (finish (A_laws_toIntS) S_laws_toIntS Try.f16.results.toList)) (fun j st => (blockK 0 (seqK ((A_laws_toIntS).shape 13) (run (A_laws_toIntS) N (codeAt Try.f16 [1, 1, 1])) (finish (A_laws_toIntS) S_laws_toIntS Try.f16.results.toList))) (.exit j) st)) a0 out3 i4 := iter_ex (fun st => by kernel_rfl) (fun st => by kernel_rfl)
  (e.trans (laws_toIntS_iter3 N (fun st' => run (A_laws_toIntS) N (codeAt Try.f16 [1, 1, 1]) st' (finish (A_laws_toIntS) S_laws_toIntS Try.f16.results.toList)) (fun j st => (blockK 0 (seqK ((A_laws_toIntS).shape 13) (run (A_laws_toIntS) N (codeAt Try.f16 [1, 1, 1])) (finish (A_laws_toIntS) S_laws_toIntS Try.f16.results.toList))) (.exit j) st) N a0 out3 i4)).trans (congrArg (fun k => laws_toIntS_l3 N k N a0 out3 i4) h)
theorem run0_laws_toIntS (N : Nat) (x : (S_laws_toIntS).a.den) : runF (A_laws_toIntS) N Try.f16 S_laws_toIntS x = (laws_toIntS_s (laws_toIntS_R3 (codeAt Try.f16 [1, 1, 0, 1, 0, 0]) N N (blockK 0 (seqK ((A_laws_toIntS).shape 13) (run (A_laws_toIntS) N (codeAt Try.f16 [1, 1, 1])) (finish (A_laws_toIntS) S_laws_toIntS Try.f16.results.toList)))) x.1) := by kernel_rfl
theorem run_laws_toIntS (N : Nat) (x : (S_laws_toIntS).a.den) : runF (A_laws_toIntS) N Try.f16 S_laws_toIntS x = laws_toIntS N x.1 := by
  refine (run0_laws_toIntS N x).trans ?_
  rw [(funext fun a0 => (funext fun out3 => (funext fun i4 => laws_toIntS_in3 N a0 out3 i4)))]
  rfl
theorem fn_laws_toIntS : FnOk Try.prog 16 := ⟨_, Try.func16, by kernel_rfl, by kernel_rfl⟩
theorem good_laws_toIntS : Gx.Good Try.prog 16 S_laws_toIntS := good_of_run Try.func16 (of_decide_eq_true (by kernel_rfl)) fun x r h => ⟨A_laws_toIntS, big, mkCfg_ok tabOk, mkCfg_sigs (show SigsOk Try.prog [] from trivial), (run_laws_toIntS big x).trans h⟩

/-! spec_l30Context -/
def spec_l30Context_b4 (rec : (List (List Bool)) → Int → Option (Bool × Unit)) (k : Option (Bool × Unit)) (cells0 : (List (List Bool))) (i3 : Int) : Option (Bool × Unit) :=
  cond (decide (i3 < (cells0.length : Int)))
  ((atI cells0 i3).bind fun xq1 =>
  cond (decide ((6 : Int) < (xq1.length : Int)))
  (some (false, (())))
  ((atI cells0 i3).bind fun xq2 =>
  (atI cells0 (0 : Int)).bind fun xq3 =>
  cond (decide ((xq2.length : Int) ≠ (xq3.length : Int)))
  (some (false, (())))
  (rec cells0 (IntKind.i64.wrap (i3 + (1 : Int))))))
  (k)
def spec_l30Context_a4 : Option (Bool × Unit) :=
  some (true, (()))
def spec_l30Context_s (L4 : (List (List Bool)) → Int → Option (Bool × Unit)) (cells_0 : (List (List Bool))) : Option (Bool × Unit) :=
  cond (decide ((6 : Int) < (cells_0.length : Int)))
  (some (false, (())))
  (L4 cells_0 (0 : Int))
def spec_l30Context_l4 (N : Nat) (k : Option (Bool × Unit)) : Nat → (List (List Bool)) → Int → Option (Bool × Unit)
  | 0, _, _ => none
  | m + 1, cells0, i3 => spec_l30Context_b4 (spec_l30Context_l4 N k m) k cells0 i3
def spec_l30Context_F4 (N : Nat) (cells0 : (List (List Bool))) (i3 : Int) : Option (Bool × Unit) := spec_l30Context_l4 N (spec_l30Context_a4) N cells0 i3
def spec_l30Context (N : Nat) (cells_0 : (List (List Bool))) : Option (Bool × Unit) := spec_l30Context_s (spec_l30Context_F4 N) cells_0
def S_spec_l30Context : Sig := { a := (.pair (.sl (.sl .bool)) .unit), md := [0], mf := [], m := .unit, r := .bool, rf := .i, f := fun x => spec_l30Context big x.1 }
def A_spec_l30Context : Cfg := mkCfg tab [] [(8, [.as (.sl (.sl .bool)) .i, .drop, .drop, .as I .i]), (17, [])]
def spec_l30Context_R4 (cd : Code) (N n : Nat) (K : Ex → St → Option (Bool × Unit)) (cells0 : (List (List Bool))) (i3 : Int) : Option (Bool × Unit) := iter ((A_spec_l30Context).shape 8) (run (A_spec_l30Context) N cd) n ([.val (.sl (.sl .bool)) .i cells0, .u, .u, .val I .i i3] ++ List.replicate 27 .u) K
theorem spec_l30Context_step4 (N : Nat) (m : Nat) (kX : St → Option (Bool × Unit)) (kO : Nat → St → Option (Bool × Unit)) (cells0 : (List (List Bool))) (i3 : Int) : spec_l30Context_R4 (codeAt Try.f68 [1, 1, 0, 1, 0, 0]) N (m + 1) (exK (finish (A_spec_l30Context) S_spec_l30Context Try.f68.results.toList) 0 ((A_spec_l30Context).shape 17) kX kO) cells0 i3 = spec_l30Context_b4 (spec_l30Context_R4 (codeAt Try.f68 [1, 1, 0, 1, 0, 0]) N m (exK (finish (A_spec_l30Context) S_spec_l30Context Try.f68.results.toList) 0 ((A_spec_l30Context).shape 17) kX kO)) (kX ([] ++ List.replicate 31 .u)) cells0 i3 := by kernel_rfl
theorem spec_l30Context_iter4 (N : Nat) (kX : St → Option (Bool × Unit)) (kO : Nat → St → Option (Bool × Unit)) : ∀ (n : Nat) (cells0 : (List (List Bool))) (i3 : Int), spec_l30Context_R4 (codeAt Try.f68 [1, 1, 0, 1, 0, 0]) N n (exK (finish (A_spec_l30Context) S_spec_l30Context Try.f68.results.toList) 0 ((A_spec_l30Context).shape 17) kX kO) cells0 i3 = spec_l30Context_l4 N (kX ([] ++ List.replicate 31 .u)) n cells0 i3
  | 0, _, _ => rfl
  | m + 1, cells0, i3 => by
    have hrec : spec_l30Context_R4 (codeAt Try.f68 [1, 1, 0, 1, 0, 0]) N m (exK (finish (A_spec_l30Context) S_spec_l30Context Try.f68.results.toList) 0 ((A_spec_l30Context).shape 17) kX kO) = (spec_l30Context_l4 N (kX ([] ++ List.replicate 31 .u)) m) := (funext fun cells0 => (funext fun i3 => spec_l30Context_iter4 N kX kO m cells0 i3))
    refine (spec_l30Context_step4 N m kX kO cells0 i3).trans ?_
    rw [hrec]
    rfl
theorem spec_l30Context_after4 (N : Nat) : (fun st' => run (A_spec_l30Context) N (codeAt Try.f68 [1, 1, 1]) st' (finish (A_spec_l30Context) S_spec_l30Context Try.f68.results.toList)) ([] ++ List.replicate 31 .u) = spec_l30Context_a4 := by kernel_rfl
theorem spec_l30Context_in4 (N : Nat) (cells0 : (List (List Bool))) (i3 : Int) : spec_l30Context_R4 (codeAt Try.f68 [1, 1, 0, 1, 0, 0]) N N (blockK 0 (seqK ((A_spec_l30Context).shape 17) (run (A_spec_l30Context) N (codeAt Try.f68 [1, 1, 1])) (finish (A_spec_l30Context) S_spec_l30Context Try.f68.results.toList))) cells0 i3 = spec_l30Context_F4 N cells0 i3 :=
  have h : ((fun st' => run (A_spec_l30Context) N (codeAt Try.f68 [1, 1, 1]) st' (finish (A_spec_l30Context) S_spec_l30Context Try.f68.results.toList)) ([] ++ List.replicate 31 .u)) = (spec_l30Context_a4) := spec_l30Context_after4 N
  have e : spec_l30Context_R4 (codeAt Try.f68 [1, 1, 0, 1, 0, 0]) N N (blockK 0 (seqK ((A_spec_l30Context).shape 17) (run (A_spec_l30Context) N (codeAt Try.f68 [1, 1, 1])) (finish (A_spec_l30Context) S_spec_l30Context Try.f68.results.toList))) cells0 i3 = spec_l30Context_R4 (codeAt Try.f68 [1, 1, 0, 1, 0, 0]) N N (exK (finish (A_spec_l30Context) S_spec_l30Context Try.f68.results.toList) 0 ((A_spec_l30Context).shape 17) (fun st' => run (A_spec_l30Context) N (codeAt Try.f68 [1, 1, 1]) st' (finish (A_spec_l30Context) S_spec_l30Context Try.f68.results.toList)) (fun j st => (blockK 0 (seqK ((A_spec_l30Context).shape 17) (run (A_spec_l30Context) N (codeAt Try.f68 [1, 1, 1])) (finish (A_spec_l30Context) S_spec_l30Context Try.f68.results.toList))) (.exit j) st)) cells0 i3 := iter_ex (fun st => by kernel_rfl) (fun st => by kernel_rfl)
  (e.trans (spec_l30Context_iter4 N (fun st' => run (A_spec_l30Context) N (codeAt Try.f68 [1, 1, 1]) st' (finish (A_spec_l30Context) S_spec_l30Context Try.f68.results.toList)) (fun j st => (blockK 0 (seqK ((A_spec_l30Context).shape 17) (run (A_spec_l30Context) N (codeAt Try.f68 [1, 1, 1])) (finish (A_spec_l30Context) S_spec_l30Context Try.f68.results.toList))) (.exit j) st) N cells0 i3)).trans (congrArg (fun k => spec_l30Context_l4 N k N cells0 i3) h)
theorem run0_spec_l30Context (N : Nat) (x : (S_spec_l30Context).a.den) : runF (A_spec_l30Context) N Try.f68 S_spec_l30Context x = (spec_l30Context_s (spec_l30Context_R4 (codeAt Try.f68 [1, 1, 0, 1, 0, 0]) N N (blockK 0 (seqK ((A_spec_l30Context).shape 17) (run (A_spec_l30Context) N (codeAt Try.f68 [1, 1, 1])) (finish (A_spec_l30Context) S_spec_l30Context Try.f68.results.toList)))) x.1) := by kernel_rfl
theorem run_spec_l30Context (N : Nat) (x : (S_spec_l30Context).a.den) : runF (A_spec_l30Context) N Try.f68 S_spec_l30Context x = spec_l30Context N x.1 := by
  refine (run0_spec_l30Context N x).trans ?_
  rw [(funext fun cells0 => (funext fun i3 => spec_l30Context_in4 N cells0 i3))]
  rfl
theorem fn_spec_l30Context : FnOk Try.prog 68 := ⟨_, Try.func68, by kernel_rfl, by kernel_rfl⟩
theorem good_spec_l30Context : Gx.Good Try.prog 68 S_spec_l30Context := good_of_run Try.func68 (of_decide_eq_true (by kernel_rfl)) fun x r h => ⟨A_spec_l30Context, big, mkCfg_ok tabOk, mkCfg_sigs (show SigsOk Try.prog [] from trivial), (run_spec_l30Context big x).trans h⟩

/-! spec_l1In -/
def spec_l1In_s (x_0 : Int) (a_1 : Int) (b_2 : Int) : Option (Bool × Unit) :=
  cond (decide (a_1 ≤ x_0))
  (some (decide (x_0 ≤ b_2), (())))
  (some (false, (())))
def spec_l1In (x_0 : Int) (a_1 : Int) (b_2 : Int) : Option (Bool × Unit) := spec_l1In_s x_0 a_1 b_2
def S_spec_l1In : Sig := { a := (.pair I (.pair I (.pair I .unit))), md := [0, 0, 0], mf := [], m := .unit, r := .bool, rf := .i, f := fun x => spec_l1In x.1 x.2.1 x.2.2.1 }
def A_spec_l1In : Cfg := mkCfg tab [] []
theorem run_spec_l1In (N : Nat) (x : (S_spec_l1In).a.den) : runF (A_spec_l1In) N Try.f59 S_spec_l1In x = spec_l1In x.1 x.2.1 x.2.2.1 := by kernel_rfl
theorem fn_spec_l1In : FnOk Try.prog 59 := ⟨_, Try.func59, by kernel_rfl, by kernel_rfl⟩
theorem good_spec_l1In : Gx.Good Try.prog 59 S_spec_l1In := good_of_run Try.func59 (of_decide_eq_true (by kernel_rfl)) fun x r h => ⟨A_spec_l1In, big, mkCfg_ok tabOk, mkCfg_sigs (show SigsOk Try.prog [] from trivial), (run_spec_l1In big x).trans h⟩

/-! spec_l1Rising -/
def spec_l1Rising_b2 (rec : (List Int) → Int → Int → Int → Option (Bool × Unit)) (k : Option (Bool × Unit)) (l0 : (List Int)) (lo1 : Int) (hi2 : Int) (i7 : Int) : Option (Bool × Unit) :=
  cond (decide (i7 < (l0.length : Int)))
  ((atI l0 i7).bind fun xq1 =>
  (spec_l1In xq1 lo1 hi2).bind fun rq2 =>
  cond (!rq2.1)
  (some (false, (())))
  (cond (decide ((0 : Int) < i7))
  ((atI l0 (IntKind.i64.wrap (i7 - (1 : Int)))).bind fun xq3 =>
  (atI l0 i7).bind fun xq4 =>
  cond (decide (xq4 ≤ xq3))
  (some (false, (())))
  (rec l0 lo1 hi2 (IntKind.i64.wrap (i7 + (1 : Int)))))
  (rec l0 lo1 hi2 (IntKind.i64.wrap (i7 + (1 : Int))))))
  (k)
def spec_l1Rising_a2 : Option (Bool × Unit) :=
  some (true, (()))
def spec_l1Rising_s (L2 : (List Int) → Int → Int → Int → Option (Bool × Unit)) (l_0 : (List Int)) (lo_1 : Int) (hi_2 : Int) : Option (Bool × Unit) :=
  L2 l_0 lo_1 hi_2 (0 : Int)
def spec_l1Rising_l2 (N : Nat) (k : Option (Bool × Unit)) : Nat → (List Int) → Int → Int → Int → Option (Bool × Unit)
  | 0, _, _, _, _ => none
  | m + 1, l0, lo1, hi2, i7 => spec_l1Rising_b2 (spec_l1Rising_l2 N k m) k l0 lo1 hi2 i7
def spec_l1Rising_F2 (N : Nat) (l0 : (List Int)) (lo1 : Int) (hi2 : Int) (i7 : Int) : Option (Bool × Unit) := spec_l1Rising_l2 N (spec_l1Rising_a2) N l0 lo1 hi2 i7
def spec_l1Rising (N : Nat) (l_0 : (List Int)) (lo_1 : Int) (hi_2 : Int) : Option (Bool × Unit) := spec_l1Rising_s (spec_l1Rising_F2 N) l_0 lo_1 hi_2
def S_spec_l1Rising : Sig := { a := (.pair (.sl I) (.pair I (.pair I .unit))), md := [0, 0, 0], mf := [], m := .unit, r := .bool, rf := .i, f := fun x => spec_l1Rising big x.1 x.2.1 x.2.2.1 }
def A_spec_l1Rising : Cfg := mkCfg tab [(59, S_spec_l1In)] [(4, [.as (.sl I) .i, .as I .i, .as I .i, .drop, .drop, .drop, .drop, .as I .i]), (13, [])]
def spec_l1Rising_R2 (cd : Code) (N n : Nat) (K : Ex → St → Option (Bool × Unit)) (l0 : (List Int)) (lo1 : Int) (hi2 : Int) (i7 : Int) : Option (Bool × Unit) := iter ((A_spec_l1Rising).shape 4) (run (A_spec_l1Rising) N cd) n ([.val (.sl I) .i l0, .val I .i lo1, .val I .i hi2, .u, .u, .u, .u, .val I .i i7] ++ List.replicate 30 .u) K
theorem spec_l1Rising_step2 (N : Nat) (m : Nat) (kX : St → Option (Bool × Unit)) (kO : Nat → St → Option (Bool × Unit)) (l0 : (List Int)) (lo1 : Int) (hi2 : Int) (i7 : Int) : spec_l1Rising_R2 (codeAt Try.f122 [1, 0, 1, 0, 0]) N (m + 1) (exK (finish (A_spec_l1Rising) S_spec_l1Rising Try.f122.results.toList) 0 ((A_spec_l1Rising).shape 13) kX kO) l0 lo1 hi2 i7 = spec_l1Rising_b2 (spec_l1Rising_R2 (codeAt Try.f122 [1, 0, 1, 0, 0]) N m (exK (finish (A_spec_l1Rising) S_spec_l1Rising Try.f122.results.toList) 0 ((A_spec_l1Rising).shape 13) kX kO)) (kX ([] ++ List.replicate 38 .u)) l0 lo1 hi2 i7 := by kernel_rfl
theorem spec_l1Rising_iter2 (N : Nat) (kX : St → Option (Bool × Unit)) (kO : Nat → St → Option (Bool × Unit)) : ∀ (n : Nat) (l0 : (List Int)) (lo1 : Int) (hi2 : Int) (i7 : Int), spec_l1Rising_R2 (codeAt Try.f122 [1, 0, 1, 0, 0]) N n (exK (finish (A_spec_l1Rising) S_spec_l1Rising Try.f122.results.toList) 0 ((A_spec_l1Rising).shape 13) kX kO) l0 lo1 hi2 i7 = spec_l1Rising_l2 N (kX ([] ++ List.replicate 38 .u)) n l0 lo1 hi2 i7
  | 0, _, _, _, _ => rfl
  | m + 1, l0, lo1, hi2, i7 => by
    have hrec : spec_l1Rising_R2 (codeAt Try.f122 [1, 0, 1, 0, 0]) N m (exK (finish (A_spec_l1Rising) S_spec_l1Rising Try.f122.results.toList) 0 ((A_spec_l1Rising).shape 13) kX kO) = (spec_l1Rising_l2 N (kX ([] ++ List.replicate 38 .u)) m) := (funext fun l0 => (funext fun lo1 => (funext fun hi2 => (funext fun i7 => spec_l1Rising_iter2 N kX kO m l0 lo1 hi2 i7))))
    refine (spec_l1Rising_step2 N m kX kO l0 lo1 hi2 i7).trans ?_
    rw [hrec]
    rfl
theorem spec_l1Rising_after2 (N : Nat) : (fun st' => run (A_spec_l1Rising) N (codeAt Try.f122 [1, 1]) st' (finish (A_spec_l1Rising) S_spec_l1Rising Try.f122.results.toList)) ([] ++ List.replicate 38 .u) = spec_l1Rising_a2 := by kernel_rfl
theorem spec_l1Rising_in2 (N : Nat) (l0 : (List Int)) (lo1 : Int) (hi2 : Int) (i7 : Int) : spec_l1Rising_R2 (codeAt Try.f122 [1, 0, 1, 0, 0]) N N (blockK 0 (seqK ((A_spec_l1Rising).shape 13) (run (A_spec_l1Rising) N (codeAt Try.f122 [1, 1])) (finish (A_spec_l1Rising) S_spec_l1Rising Try.f122.results.toList))) l0 lo1 hi2 i7 = spec_l1Rising_F2 N l0 lo1 hi2 i7 :=
  have h : ((fun st' => run (A_spec_l1Rising) N (codeAt Try.f122 [1, 1]) st' (finish (A_spec_l1Rising) S_spec_l1Rising Try.f122.results.toList)) ([] ++ List.replicate 38 .u)) = (spec_l1Rising_a2) := spec_l1Rising_after2 N
  have e : spec_l1Rising_R2 (codeAt Try.f122 [1, 0, 1, 0, 0]) N N (blockK 0 (seqK ((A_spec_l1Rising).shape 13) (run (A_spec_l1Rising) N (codeAt Try.f122 [1, 1])) (finish (A_spec_l1Rising) S_spec_l1Rising Try.f122.results.toList))) l0 lo1 hi2 i7 = spec_l1Rising_R2 (codeAt Try.f122 [1, 0, 1, 0, 0]) N N (exK (finish (A_spec_l1Rising) S_spec_l1Rising Try.f122.results.toList) 0 ((A_spec_l1Rising).shape 13) (fun st' => run (A_spec_l1Rising) N (codeAt Try.f122 [1, 1]) st' (finish (A_spec_l1Rising) S_spec_l1Rising Try.f122.results.toList)) (fun j st => (blockK 0 (seqK ((A_spec_l1Rising).shape 13) (run (A_spec_l1Rising) N (codeAt Try.f122 [1, 1])) (finish (A_spec_l1Rising) S_spec_l1Rising Try.f122.results.toList))) (.exit j) st)) l0 lo1 hi2 i7 := iter_ex (fun st => by kernel_rfl) (fun st => by kernel_rfl)
  (e.trans (spec_l1Rising_iter2 N (fun st' => run (A_spec_l1Rising) N (codeAt Try.f122 [1, 1]) st' (finish (A_spec_l1Rising) S_spec_l1Rising Try.f122.results.toList)) (fun j st => (blockK 0 (seqK ((A_spec_l1Rising).shape 13) (run (A_spec_l1Rising) N (codeAt Try.f122 [1, 1])) (finish (A_spec_l1Rising) S_spec_l1Rising Try.f122.results.toList))) (.exit j) st) N l0 lo1 hi2 i7)).trans (congrArg (fun k => spec_l1Rising_l2 N k N l0 lo1 hi2 i7) h)
theorem run0_spec_l1Rising (N : Nat) (x : (S_spec_l1Rising).a.den) : runF (A_spec_l1Rising) N Try.f122 S_spec_l1Rising x = (spec_l1Rising_s (spec_l1Rising_R2 (codeAt Try.f122 [1, 0, 1, 0, 0]) N N (blockK 0 (seqK ((A_spec_l1Rising).shape 13) (run (A_spec_l1Rising) N (codeAt Try.f122 [1, 1])) (finish (A_spec_l1Rising) S_spec_l1Rising Try.f122.results.toList)))) x.1 x.2.1 x.2.2.1) := by kernel_rfl
theorem run_spec_l1Rising (N : Nat) (x : (S_spec_l1Rising).a.den) : runF (A_spec_l1Rising) N Try.f122 S_spec_l1Rising x = spec_l1Rising N x.1 x.2.1 x.2.2.1 := by
  refine (run0_spec_l1Rising N x).trans ?_
  rw [(funext fun l0 => (funext fun lo1 => (funext fun hi2 => (funext fun i7 => spec_l1Rising_in2 N l0 lo1 hi2 i7))))]
  rfl
theorem fn_spec_l1Rising : FnOk Try.prog 122 := ⟨_, Try.func122, by kernel_rfl, by kernel_rfl⟩
theorem good_spec_l1Rising : Gx.Good Try.prog 122 S_spec_l1Rising := good_of_run Try.func122 (of_decide_eq_true (by kernel_rfl)) fun x r h => ⟨A_spec_l1Rising, big, mkCfg_ok tabOk, mkCfg_sigs (show SigsOk Try.prog [(59, S_spec_l1In)] from ⟨⟨fn_spec_l1In, good_spec_l1In⟩, trivial⟩), (run_spec_l1Rising big x).trans h⟩

/-! spec_l30Set -/
def spec_l30Set_s (n_0 : Int) (set_1 : (List Int)) : Option (Bool × Unit) :=
  (spec_l1Rising big set_1 (0 : Int) (IntKind.i64.wrap (n_0 - (1 : Int)))).bind fun rq1 =>
  some (rq1.1, (()))
def spec_l30Set (n_0 : Int) (set_1 : (List Int)) : Option (Bool × Unit) := spec_l30Set_s n_0 set_1
def S_spec_l30Set : Sig := { a := (.pair I (.pair (.sl I) .unit)), md := [0, 0], mf := [], m := .unit, r := .bool, rf := .i, f := fun x => spec_l30Set x.1 x.2.1 }
def A_spec_l30Set : Cfg := mkCfg tab [(122, S_spec_l1Rising)] []
theorem run_spec_l30Set (N : Nat) (x : (S_spec_l30Set).a.den) : runF (A_spec_l30Set) N Try.f69 S_spec_l30Set x = spec_l30Set x.1 x.2.1 := by kernel_rfl
theorem fn_spec_l30Set : FnOk Try.prog 69 := ⟨_, Try.func69, by kernel_rfl, by kernel_rfl⟩
theorem good_spec_l30Set : Gx.Good Try.prog 69 S_spec_l30Set := good_of_run Try.func69 (of_decide_eq_true (by kernel_rfl)) fun x r h => ⟨A_spec_l30Set, big, mkCfg_ok tabOk, mkCfg_sigs (show SigsOk Try.prog [(122, S_spec_l1Rising)] from ⟨⟨fn_spec_l1Rising, good_spec_l1Rising⟩, trivial⟩), (run_spec_l30Set big x).trans h⟩

/-! spec_l30Columns -/
def spec_l30Columns_s (cells_0 : (List (List Bool))) : Option (Int × Unit) :=
  cond (decide ((cells_0.length : Int) = (0 : Int)))
  (some ((0 : Int), (())))
  ((atI cells_0 (0 : Int)).bind fun xq1 =>
  some ((xq1.length : Int), (())))
def spec_l30Columns (cells_0 : (List (List Bool))) : Option (Int × Unit) := spec_l30Columns_s cells_0
def S_spec_l30Columns : Sig := { a := (.pair (.sl (.sl .bool)) .unit), md := [0], mf := [], m := .unit, r := I, rf := .i, f := fun x => spec_l30Columns x.1 }
def A_spec_l30Columns : Cfg := mkCfg tab [] []
theorem run_spec_l30Columns (N : Nat) (x : (S_spec_l30Columns).a.den) : runF (A_spec_l30Columns) N Try.f79 S_spec_l30Columns x = spec_l30Columns x.1 := by kernel_rfl
theorem fn_spec_l30Columns : FnOk Try.prog 79 := ⟨_, Try.func79, by kernel_rfl, by kernel_rfl⟩
theorem good_spec_l30Columns : Gx.Good Try.prog 79 S_spec_l30Columns := good_of_run Try.func79 (of_decide_eq_true (by kernel_rfl)) fun x r h => ⟨A_spec_l30Columns, big, mkCfg_ok tabOk, mkCfg_sigs (show SigsOk Try.prog [] from trivial), (run_spec_l30Columns big x).trans h⟩

/-! spec_l30Row -/
def spec_l30Row_b7 (rec : (List (List Bool)) → (List Int) → (List Int) → Int → Bool → Int → Option ((List Int) × Unit)) (k : (List (List Bool)) → (List Int) → (List Int) → Int → Bool → Option ((List Int) × Unit)) (cells0 : (List (List Bool))) (rows1 : (List Int)) (out5 : (List Int)) (c6 : Int) (all7 : Bool) (i8 : Int) : Option ((List Int) × Unit) :=
  cond (decide (i8 < (rows1.length : Int)))
  (cond all7
  ((atI rows1 i8).bind fun xq2 =>
  (atI cells0 xq2).bind fun xq3 =>
  (atI xq3 c6).bind fun xq4 =>
  rec cells0 rows1 out5 c6 xq4 (IntKind.i64.wrap (i8 + (1 : Int))))
  (rec cells0 rows1 out5 c6 false (IntKind.i64.wrap (i8 + (1 : Int)))))
  (k cells0 rows1 out5 c6 all7)
def spec_l30Row_a7 (rec : (List (List Bool)) → (List Int) → (List Int) → Int → Option ((List Int) × Unit)) (cells0 : (List (List Bool))) (rows1 : (List Int)) (out5 : (List Int)) (c6 : Int) (all7 : Bool) : Option ((List Int) × Unit) :=
  cond all7
  ((appI out5 [c6]).bind fun xq5 =>
  rec cells0 rows1 xq5 (IntKind.i64.wrap (c6 + (1 : Int))))
  (rec cells0 rows1 out5 (IntKind.i64.wrap (c6 + (1 : Int))))
def spec_l30Row_b3 (L7 : (List (List Bool)) → (List Int) → (List Int) → Int → Bool → Int → Option ((List Int) × Unit)) (k : (List Int) → Option ((List Int) × Unit)) (cells0 : (List (List Bool))) (rows1 : (List Int)) (out5 : (List Int)) (c6 : Int) : Option ((List Int) × Unit) :=
  (spec_l30Columns cells0).bind fun rq1 =>
  cond (decide (c6 < rq1.1))
  (L7 cells0 rows1 out5 c6 true (0 : Int))
  (k out5)
def spec_l30Row_a3 (out5 : (List Int)) : Option ((List Int) × Unit) :=
  some (out5, (()))
def spec_l30Row_s (L3 : (List (List Bool)) → (List Int) → (List Int) → Int → Option ((List Int) × Unit)) (cells_0 : (List (List Bool))) (rows_1 : (List Int)) : Option ((List Int) × Unit) :=
  L3 cells_0 rows_1 [] (0 : Int)
def spec_l30Row_l7 (N : Nat) (k : (List (List Bool)) → (List Int) → (List Int) → Int → Bool → Option ((List Int) × Unit)) : Nat → (List (List Bool)) → (List Int) → (List Int) → Int → Bool → Int → Option ((List Int) × Unit)
  | 0, _, _, _, _, _, _ => none
  | m + 1, cells0, rows1, out5, c6, all7, i8 => spec_l30Row_b7 (spec_l30Row_l7 N k m) k cells0 rows1 out5 c6 all7 i8
def spec_l30Row_F7 (N : Nat) (rec : (List (List Bool)) → (List Int) → (List Int) → Int → Option ((List Int) × Unit)) (k : (List Int) → Option ((List Int) × Unit)) (cells0 : (List (List Bool))) (rows1 : (List Int)) (out5 : (List Int)) (c6 : Int) (all7 : Bool) (i8 : Int) : Option ((List Int) × Unit) := spec_l30Row_l7 N (spec_l30Row_a7 rec) N cells0 rows1 out5 c6 all7 i8
def spec_l30Row_l3 (N : Nat) (k : (List Int) → Option ((List Int) × Unit)) : Nat → (List (List Bool)) → (List Int) → (List Int) → Int → Option ((List Int) × Unit)
  | 0, _, _, _, _ => none
  | m + 1, cells0, rows1, out5, c6 => spec_l30Row_b3 (spec_l30Row_F7 N (spec_l30Row_l3 N k m) k) k cells0 rows1 out5 c6
def spec_l30Row_F3 (N : Nat) (cells0 : (List (List Bool))) (rows1 : (List Int)) (out5 : (List Int)) (c6 : Int) : Option ((List Int) × Unit) := spec_l30Row_l3 N (spec_l30Row_a3) N cells0 rows1 out5 c6
def spec_l30Row (N : Nat) (cells_0 : (List (List Bool))) (rows_1 : (List Int)) : Option ((List Int) × Unit) := spec_l30Row_s (spec_l30Row_F3 N) cells_0 rows_1
def S_spec_l30Row : Sig := { a := (.pair (.sl (.sl .bool)) (.pair (.sl I) .unit)), md := [0, 0], mf := [], m := .unit, r := (.sl I), rf := (.o .i), f := fun x => spec_l30Row big x.1 x.2.1 }
def A_spec_l30Row : Cfg := mkCfg tab [(79, S_spec_l30Columns)] [(6, [.as (.sl (.sl .bool)) .i, .as (.sl I) .i, .drop, .drop, .drop, .as (.sl I) (.o .i), .as I .i]), (14, [.as (.sl (.sl .bool)) .i, .as (.sl I) .i, .drop, .drop, .drop, .as (.sl I) (.o .i), .as I .i, .as .bool .i, .as I .i]), (25, [.drop, .drop, .drop, .drop, .drop, .as (.sl I) (.o .i)]), (21, [.as (.sl (.sl .bool)) .i, .as (.sl I) .i, .drop, .drop, .drop, .as (.sl I) (.o .i), .as I .i, .as .bool .i])]
def spec_l30Row_R3 (cd : Code) (N n : Nat) (K : Ex → St → Option ((List Int) × Unit)) (cells0 : (List (List Bool))) (rows1 : (List Int)) (out5 : (List Int)) (c6 : Int) : Option ((List Int) × Unit) := iter ((A_spec_l30Row).shape 6) (run (A_spec_l30Row) N cd) n ([.val (.sl (.sl .bool)) .i cells0, .val (.sl I) .i rows1, .u, .u, .u, .val (.sl I) (.o .i) out5, .val I .i c6] ++ List.replicate 34 .u) K
def spec_l30Row_R7 (cd : Code) (N n : Nat) (K : Ex → St → Option ((List Int) × Unit)) (cells0 : (List (List Bool))) (rows1 : (List Int)) (out5 : (List Int)) (c6 : Int) (all7 : Bool) (i8 : Int) : Option ((List Int) × Unit) := iter ((A_spec_l30Row).shape 14) (run (A_spec_l30Row) N cd) n ([.val (.sl (.sl .bool)) .i cells0, .val (.sl I) .i rows1, .u, .u, .u, .val (.sl I) (.o .i) out5, .val I .i c6, .val .bool .i all7, .val I .i i8] ++ List.replicate 32 .u) K
theorem spec_l30Row_step7 (N : Nat) (m : Nat) (kX : St → Option ((List Int) × Unit)) (kO : Nat → St → Option ((List Int) × Unit)) (cells0 : (List (List Bool))) (rows1 : (List Int)) (out5 : (List Int)) (c6 : Int) (all7 : Bool) (i8 : Int) : spec_l30Row_R7 (codeAt Try.f70 [1, 1, 0, 1, 0, 0, 1, 0, 0, 1, 0, 1, 0, 0]) N (m + 1) (exK (finish (A_spec_l30Row) S_spec_l30Row Try.f70.results.toList) 2 ((A_spec_l30Row).shape 21) kX kO) cells0 rows1 out5 c6 all7 i8 = spec_l30Row_b7 (spec_l30Row_R7 (codeAt Try.f70 [1, 1, 0, 1, 0, 0, 1, 0, 0, 1, 0, 1, 0, 0]) N m (exK (finish (A_spec_l30Row) S_spec_l30Row Try.f70.results.toList) 2 ((A_spec_l30Row).shape 21) kX kO)) (fun (cells0 : (List (List Bool))) (rows1 : (List Int)) (out5 : (List Int)) (c6 : Int) (all7 : Bool) => kX ([.val (.sl (.sl .bool)) .i cells0, .val (.sl I) .i rows1, .u, .u, .u, .val (.sl I) (.o .i) out5, .val I .i c6, .val .bool .i all7] ++ List.replicate 33 .u)) cells0 rows1 out5 c6 all7 i8 := by kernel_rfl
theorem spec_l30Row_iter7 (N : Nat) (kX : St → Option ((List Int) × Unit)) (kO : Nat → St → Option ((List Int) × Unit)) : ∀ (n : Nat) (cells0 : (List (List Bool))) (rows1 : (List Int)) (out5 : (List Int)) (c6 : Int) (all7 : Bool) (i8 : Int), spec_l30Row_R7 (codeAt Try.f70 [1, 1, 0, 1, 0, 0, 1, 0, 0, 1, 0, 1, 0, 0]) N n (exK (finish (A_spec_l30Row) S_spec_l30Row Try.f70.results.toList) 2 ((A_spec_l30Row).shape 21) kX kO) cells0 rows1 out5 c6 all7 i8 = spec_l30Row_l7 N (fun (cells0 : (List (List Bool))) (rows1 : (List Int)) (out5 : (List Int)) (c6 : Int) (all7 : Bool) => kX ([.val (.sl (.sl .bool)) .i cells0, .val (.sl I) .i rows1, .u, .u, .u, .val (.sl I) (.o .i) out5, .val I .i c6, .val .bool .i all7] ++ List.replicate 33 .u)) n cells0 rows1 out5 c6 all7 i8
  | 0, _, _, _, _, _, _ => rfl
  | m + 1, cells0, rows1, out5, c6, all7, i8 => by
    have hrec : spec_l30Row_R7 (codeAt Try.f70 [1, 1, 0, 1, 0, 0, 1, 0, 0, 1, 0, 1, 0, 0]) N m (exK (finish (A_spec_l30Row) S_spec_l30Row Try.f70.results.toList) 2 ((A_spec_l30Row).shape 21) kX kO) = (spec_l30Row_l7 N (fun (cells0 : (List (List Bool))) (rows1 : (List Int)) (out5 : (List Int)) (c6 : Int) (all7 : Bool) => kX ([.val (.sl (.sl .bool)) .i cells0, .val (.sl I) .i rows1, .u, .u, .u, .val (.sl I) (.o .i) out5, .val I .i c6, .val .bool .i all7] ++ List.replicate 33 .u)) m) := (funext fun cells0 => (funext fun rows1 => (funext fun out5 => (funext fun c6 => (funext fun all7 => (funext fun i8 => spec_l30Row_iter7 N kX kO m cells0 rows1 out5 c6 all7 i8))))))
    refine (spec_l30Row_step7 N m kX kO cells0 rows1 out5 c6 all7 i8).trans ?_
    rw [hrec]
    rfl
theorem spec_l30Row_after7 (N : Nat) (m : Nat) (kX : St → Option ((List Int) × Unit)) (kO : Nat → St → Option ((List Int) × Unit)) (cells0 : (List (List Bool))) (rows1 : (List Int)) (out5 : (List Int)) (c6 : Int) (all7 : Bool) : (fun st' => run (A_spec_l30Row) N (codeAt Try.f70 [1, 1, 0, 1, 0, 0, 1, 0, 0, 1, 1]) st' (blockK 1 (seqK ((A_spec_l30Row).shape 9) (run (A_spec_l30Row) N (codeAt Try.f70 [1, 1, 0, 1, 0, 0, 1, 1])) (iterK ((A_spec_l30Row).shape 6) (run (A_spec_l30Row) N (codeAt Try.f70 [1, 1, 0, 1, 0, 0])) m (exK (finish (A_spec_l30Row) S_spec_l30Row Try.f70.results.toList) 0 ((A_spec_l30Row).shape 25) kX kO))))) ([.val (.sl (.sl .bool)) .i cells0, .val (.sl I) .i rows1, .u, .u, .u, .val (.sl I) (.o .i) out5, .val I .i c6, .val .bool .i all7] ++ List.replicate 33 .u) = spec_l30Row_a7 (spec_l30Row_R3 (codeAt Try.f70 [1, 1, 0, 1, 0, 0]) N m (exK (finish (A_spec_l30Row) S_spec_l30Row Try.f70.results.toList) 0 ((A_spec_l30Row).shape 25) kX kO)) cells0 rows1 out5 c6 all7 := by kernel_rfl
theorem spec_l30Row_in7 (N : Nat) (m : Nat) (kX : St → Option ((List Int) × Unit)) (kO : Nat → St → Option ((List Int) × Unit)) (recF : (List (List Bool)) → (List Int) → (List Int) → Int → Option ((List Int) × Unit)) (hrec : spec_l30Row_R3 (codeAt Try.f70 [1, 1, 0, 1, 0, 0]) N m (exK (finish (A_spec_l30Row) S_spec_l30Row Try.f70.results.toList) 0 ((A_spec_l30Row).shape 25) kX kO) = recF) (cells0 : (List (List Bool))) (rows1 : (List Int)) (out5 : (List Int)) (c6 : Int) (all7 : Bool) (i8 : Int) : spec_l30Row_R7 (codeAt Try.f70 [1, 1, 0, 1, 0, 0, 1, 0, 0, 1, 0, 1, 0, 0]) N N (blockK 2 (seqK ((A_spec_l30Row).shape 21) (run (A_spec_l30Row) N (codeAt Try.f70 [1, 1, 0, 1, 0, 0, 1, 0, 0, 1, 1])) (blockK 1 (seqK ((A_spec_l30Row).shape 9) (run (A_spec_l30Row) N (codeAt Try.f70 [1, 1, 0, 1, 0, 0, 1, 1])) (iterK ((A_spec_l30Row).shape 6) (run (A_spec_l30Row) N (codeAt Try.f70 [1, 1, 0, 1, 0, 0])) m (exK (finish (A_spec_l30Row) S_spec_l30Row Try.f70.results.toList) 0 ((A_spec_l30Row).shape 25) kX kO)))))) cells0 rows1 out5 c6 all7 i8 = spec_l30Row_F7 N recF (fun (out5 : (List Int)) => kX ([.u, .u, .u, .u, .u, .val (.sl I) (.o .i) out5] ++ List.replicate 35 .u)) cells0 rows1 out5 c6 all7 i8 :=
  have h : (fun (cells0 : (List (List Bool))) (rows1 : (List Int)) (out5 : (List Int)) (c6 : Int) (all7 : Bool) => (fun st' => run (A_spec_l30Row) N (codeAt Try.f70 [1, 1, 0, 1, 0, 0, 1, 0, 0, 1, 1]) st' (blockK 1 (seqK ((A_spec_l30Row).shape 9) (run (A_spec_l30Row) N (codeAt Try.f70 [1, 1, 0, 1, 0, 0, 1, 1])) (iterK ((A_spec_l30Row).shape 6) (run (A_spec_l30Row) N (codeAt Try.f70 [1, 1, 0, 1, 0, 0])) m (exK (finish (A_spec_l30Row) S_spec_l30Row Try.f70.results.toList) 0 ((A_spec_l30Row).shape 25) kX kO))))) ([.val (.sl (.sl .bool)) .i cells0, .val (.sl I) .i rows1, .u, .u, .u, .val (.sl I) (.o .i) out5, .val I .i c6, .val .bool .i all7] ++ List.replicate 33 .u)) = (spec_l30Row_a7 recF) := (funext fun cells0 => (funext fun rows1 => (funext fun out5 => (funext fun c6 => (funext fun all7 => (spec_l30Row_after7 N m kX kO cells0 rows1 out5 c6 all7).trans (by rw [hrec]))))))
  have e : spec_l30Row_R7 (codeAt Try.f70 [1, 1, 0, 1, 0, 0, 1, 0, 0, 1, 0, 1, 0, 0]) N N (blockK 2 (seqK ((A_spec_l30Row).shape 21) (run (A_spec_l30Row) N (codeAt Try.f70 [1, 1, 0, 1, 0, 0, 1, 0, 0, 1, 1])) (blockK 1 (seqK ((A_spec_l30Row).shape 9) (run (A_spec_l30Row) N (codeAt Try.f70 [1, 1, 0, 1, 0, 0, 1, 1])) (iterK ((A_spec_l30Row).shape 6) (run (A_spec_l30Row) N (codeAt Try.f70 [1, 1, 0, 1, 0, 0])) m (exK (finish (A_spec_l30Row) S_spec_l30Row Try.f70.results.toList) 0 ((A_spec_l30Row).shape 25) kX kO)))))) cells0 rows1 out5 c6 all7 i8 = spec_l30Row_R7 (codeAt Try.f70 [1, 1, 0, 1, 0, 0, 1, 0, 0, 1, 0, 1, 0, 0]) N N (exK (finish (A_spec_l30Row) S_spec_l30Row Try.f70.results.toList) 2 ((A_spec_l30Row).shape 21) (fun st' => run (A_spec_l30Row) N (codeAt Try.f70 [1, 1, 0, 1, 0, 0, 1, 0, 0, 1, 1]) st' (blockK 1 (seqK ((A_spec_l30Row).shape 9) (run (A_spec_l30Row) N (codeAt Try.f70 [1, 1, 0, 1, 0, 0, 1, 1])) (iterK ((A_spec_l30Row).shape 6) (run (A_spec_l30Row) N (codeAt Try.f70 [1, 1, 0, 1, 0, 0])) m (exK (finish (A_spec_l30Row) S_spec_l30Row Try.f70.results.toList) 0 ((A_spec_l30Row).shape 25) kX kO))))) (fun j st => (blockK 2 (seqK ((A_spec_l30Row).shape 21) (run (A_spec_l30Row) N (codeAt Try.f70 [1, 1, 0, 1, 0, 0, 1, 0, 0, 1, 1])) (blockK 1 (seqK ((A_spec_l30Row).shape 9) (run (A_spec_l30Row) N (codeAt Try.f70 [1, 1, 0, 1, 0, 0, 1, 1])) (iterK ((A_spec_l30Row).shape 6) (run (A_spec_l30Row) N (codeAt Try.f70 [1, 1, 0, 1, 0, 0])) m (exK (finish (A_spec_l30Row) S_spec_l30Row Try.f70.results.toList) 0 ((A_spec_l30Row).shape 25) kX kO)))))) (.exit j) st)) cells0 rows1 out5 c6 all7 i8 := iter_ex (fun st => by kernel_rfl) (fun st => by kernel_rfl)
  (e.trans (spec_l30Row_iter7 N (fun st' => run (A_spec_l30Row) N (codeAt Try.f70 [1, 1, 0, 1, 0, 0, 1, 0, 0, 1, 1]) st' (blockK 1 (seqK ((A_spec_l30Row).shape 9) (run (A_spec_l30Row) N (codeAt Try.f70 [1, 1, 0, 1, 0, 0, 1, 1])) (iterK ((A_spec_l30Row).shape 6) (run (A_spec_l30Row) N (codeAt Try.f70 [1, 1, 0, 1, 0, 0])) m (exK (finish (A_spec_l30Row) S_spec_l30Row Try.f70.results.toList) 0 ((A_spec_l30Row).shape 25) kX kO))))) (fun j st => (blockK 2 (seqK ((A_spec_l30Row).shape 21) (run (A_spec_l30Row) N (codeAt Try.f70 [1, 1, 0, 1, 0, 0, 1, 0, 0, 1, 1])) (blockK 1 (seqK ((A_spec_l30Row).shape 9) (run (A_spec_l30Row) N (codeAt Try.f70 [1, 1, 0, 1, 0, 0, 1, 1])) (iterK ((A_spec_l30Row).shape 6) (run (A_spec_l30Row) N (codeAt Try.f70 [1, 1, 0, 1, 0, 0])) m (exK (finish (A_spec_l30Row) S_spec_l30Row Try.f70.results.toList) 0 ((A_spec_l30Row).shape 25) kX kO)))))) (.exit j) st) N cells0 rows1 out5 c6 all7 i8)).trans (congrArg (fun k => spec_l30Row_l7 N k N cells0 rows1 out5 c6 all7 i8) h)
theorem spec_l30Row_step3 (N : Nat) (m : Nat) (kX : St → Option ((List Int) × Unit)) (kO : Nat → St → Option ((List Int) × Unit)) (cells0 : (List (List Bool))) (rows1 : (List Int)) (out5 : (List Int)) (c6 : Int) : spec_l30Row_R3 (codeAt Try.f70 [1, 1, 0, 1, 0, 0]) N (m + 1) (exK (finish (A_spec_l30Row) S_spec_l30Row Try.f70.results.toList) 0 ((A_spec_l30Row).shape 25) kX kO) cells0 rows1 out5 c6 = spec_l30Row_b3 (spec_l30Row_R7 (codeAt Try.f70 [1, 1, 0, 1, 0, 0, 1, 0, 0, 1, 0, 1, 0, 0]) N N (blockK 2 (seqK ((A_spec_l30Row).shape 21) (run (A_spec_l30Row) N (codeAt Try.f70 [1, 1, 0, 1, 0, 0, 1, 0, 0, 1, 1])) (blockK 1 (seqK ((A_spec_l30Row).shape 9) (run (A_spec_l30Row) N (codeAt Try.f70 [1, 1, 0, 1, 0, 0, 1, 1])) (iterK ((A_spec_l30Row).shape 6) (run (A_spec_l30Row) N (codeAt Try.f70 [1, 1, 0, 1, 0, 0])) m (exK (finish (A_spec_l30Row) S_spec_l30Row Try.f70.results.toList) 0 ((A_spec_l30Row).shape 25) kX kO))))))) (fun (out5 : (List Int)) => kX ([.u, .u, .u, .u, .u, .val (.sl I) (.o .i) out5] ++ List.replicate 35 .u)) cells0 rows1 out5 c6 := by kernel_rfl
theorem spec_l30Row_iter3 (N : Nat) (kX : St → Option ((List Int) × Unit)) (kO : Nat → St → Option ((List Int) × Unit)) : ∀ (n : Nat) (cells0 : (List (List Bool))) (rows1 : (List Int)) (out5 : (List Int)) (c6 : Int), spec_l30Row_R3 (codeAt Try.f70 [1, 1, 0, 1, 0, 0]) N n (exK (finish (A_spec_l30Row) S_spec_l30Row Try.f70.results.toList) 0 ((A_spec_l30Row).shape 25) kX kO) cells0 rows1 out5 c6 = spec_l30Row_l3 N (fun (out5 : (List Int)) => kX ([.u, .u, .u, .u, .u, .val (.sl I) (.o .i) out5] ++ List.replicate 35 .u)) n cells0 rows1 out5 c6
  | 0, _, _, _, _ => rfl
  | m + 1, cells0, rows1, out5, c6 => by
    have hrec : spec_l30Row_R3 (codeAt Try.f70 [1, 1, 0, 1, 0, 0]) N m (exK (finish (A_spec_l30Row) S_spec_l30Row Try.f70.results.toList) 0 ((A_spec_l30Row).shape 25) kX kO) = (spec_l30Row_l3 N (fun (out5 : (List Int)) => kX ([.u, .u, .u, .u, .u, .val (.sl I) (.o .i) out5] ++ List.replicate 35 .u)) m) := (funext fun cells0 => (funext fun rows1 => (funext fun out5 => (funext fun c6 => spec_l30Row_iter3 N kX kO m cells0 rows1 out5 c6))))
    refine (spec_l30Row_step3 N m kX kO cells0 rows1 out5 c6).trans ?_
    rw [(funext fun cells0 => (funext fun rows1 => (funext fun out5 => (funext fun c6 => (funext fun all7 => (funext fun i8 => spec_l30Row_in7 N m kX kO (spec_l30Row_l3 N (fun (out5 : (List Int)) => kX ([.u, .u, .u, .u, .u, .val (.sl I) (.o .i) out5] ++ List.replicate 35 .u)) m) hrec cells0 rows1 out5 c6 all7 i8))))))]
    rfl
theorem spec_l30Row_after3 (N : Nat) (out5 : (List Int)) : (fun st' => run (A_spec_l30Row) N (codeAt Try.f70 [1, 1, 1]) st' (finish (A_spec_l30Row) S_spec_l30Row Try.f70.results.toList)) ([.u, .u, .u, .u, .u, .val (.sl I) (.o .i) out5] ++ List.replicate 35 .u) = spec_l30Row_a3 out5 := by kernel_rfl
theorem spec_l30Row_in3 (N : Nat) (cells0 : (List (List Bool))) (rows1 : (List Int)) (out5 : (List Int)) (c6 : Int) : spec_l30Row_R3 (codeAt Try.f70 [1, 1, 0, 1, 0, 0]) N N (blockK 0 (seqK ((A_spec_l30Row).shape 25) (run (A_spec_l30Row) N (codeAt Try.f70 [1, 1, 1])) (finish (A_spec_l30Row) S_spec_l30Row Try.f70.results.toList))) cells0 rows1 out5 c6 = spec_l30Row_F3 N cells0 rows1 out5 c6 :=
  have h : (fun (out5 : (List Int)) => (fun st' => run (A_spec_l30Row) N (codeAt Try.f70 [1, 1, 1]) st' (finish (A_spec_l30Row) S_spec_l30Row Try.f70.results.toList)) ([.u, .u, .u, .u, .u, .val (.sl I) (.o .i) out5] ++ List.replicate 35 .u)) = (spec_l30Row_a3) := (funext fun out5 => spec_l30Row_after3 N out5)
  have e : spec_l30Row_R3 (codeAt Try.f70 [1, 1, 0, 1, 0, 0]) N N (blockK 0 (seqK ((A_spec_l30Row).shape 25) (run (A_spec_l30Row) N (codeAt Try.f70 [1, 1, 1])) (finish (A_spec_l30Row) S_spec_l30Row Try.f70.results.toList))) cells0 rows1 out5 c6 = spec_l30Row_R3 (codeAt Try.f70 [1, 1, 0, 1, 0, 0]) N N (exK (finish (A_spec_l30Row) S_spec_l30Row Try.f70.results.toList) 0 ((A_spec_l30Row).shape 25) (fun st' => run (A_spec_l30Row) N (codeAt Try.f70 [1, 1, 1]) st' (finish (A_spec_l30Row) S_spec_l30Row Try.f70.results.toList)) (fun j st => (blockK 0 (seqK ((A_spec_l30Row).shape 25) (run (A_spec_l30Row) N (codeAt Try.f70 [1, 1, 1])) (finish (A_spec_l30Row) S_spec_l30Row Try.f70.results.toList))) (.exit j) st)) cells0 rows1 out5 c6 := iter_ex (fun st => by kernel_rfl) (fun st => by kernel_rfl)
  (e.trans (spec_l30Row_iter3 N (fun st' => run (A_spec_l30Row) N (codeAt Try.f70 [1, 1, 1]) st' (finish (A_spec_l30Row) S_spec_l30Row Try.f70.results.toList)) (fun j st => (blockK 0 (seqK ((A_spec_l30Row).shape 25) (run (A_spec_l30Row) N (codeAt Try.f70 [1, 1, 1])) (finish (A_spec_l30Row) S_spec_l30Row Try.f70.results.toList))) (.exit j) st) N cells0 rows1 out5 c6)).trans (congrArg (fun k => spec_l30Row_l3 N k N cells0 rows1 out5 c6) h)
theorem run0_spec_l30Row (N : Nat) (x : (S_spec_l30Row).a.den) : runF (A_spec_l30Row) N Try.f70 S_spec_l30Row x = (spec_l30Row_s (spec_l30Row_R3 (codeAt Try.f70 [1, 1, 0, 1, 0, 0]) N N (blockK 0 (seqK ((A_spec_l30Row).shape 25) (run (A_spec_l30Row) N (codeAt Try.f70 [1, 1, 1])) (finish (A_spec_l30Row) S_spec_l30Row Try.f70.results.toList)))) x.1 x.2.1) := by kernel_rfl
theorem run_spec_l30Row (N : Nat) (x : (S_spec_l30Row).a.den) : runF (A_spec_l30Row) N Try.f70 S_spec_l30Row x = spec_l30Row N x.1 x.2.1 := by
  refine (run0_spec_l30Row N x).trans ?_
  rw [(funext fun cells0 => (funext fun rows1 => (funext fun out5 => (funext fun c6 => spec_l30Row_in3 N cells0 rows1 out5 c6))))]
  rfl
theorem fn_spec_l30Row : FnOk Try.prog 70 := ⟨_, Try.func70, by kernel_rfl, by kernel_rfl⟩
theorem good_spec_l30Row : Gx.Good Try.prog 70 S_spec_l30Row := good_of_run Try.func70 (of_decide_eq_true (by kernel_rfl)) fun x r h => ⟨A_spec_l30Row, big, mkCfg_ok tabOk, mkCfg_sigs (show SigsOk Try.prog [(79, S_spec_l30Columns)] from ⟨⟨fn_spec_l30Columns, good_spec_l30Columns⟩, trivial⟩), (run_spec_l30Row big x).trans h⟩

/-! spec_RowPolar -/
def spec_RowPolar_s (cells_0 : (List (List Bool))) (rows_1 : (List Int)) : Option (((List Int) × (Bool × Unit)) × Unit) :=
  (spec_l30Context big cells_0).bind fun rq1 =>
  cond (!rq1.1)
  (some (([], false, ()), (())))
  ((spec_l30Set (cells_0.length : Int) rows_1).bind fun rq2 =>
  cond (!rq2.1)
  (some (([], false, ()), (())))
  ((spec_l30Row big cells_0 rows_1).bind fun rq3 =>
  some ((rq3.1, true, ()), (()))))
def spec_RowPolar (cells_0 : (List (List Bool))) (rows_1 : (List Int)) : Option (((List Int) × (Bool × Unit)) × Unit) := spec_RowPolar_s cells_0 rows_1
def S_spec_RowPolar : Sig := { a := (.pair (.sl (.sl .bool)) (.pair (.sl I) .unit)), md := [0, 0], mf := [], m := .unit, r := (.tup (.pair (.sl I) (.pair .bool .unit))), rf := (.p (.o .i) .i), f := fun x => spec_RowPolar x.1 x.2.1 }
def A_spec_RowPolar : Cfg := mkCfg tab [(68, S_spec_l30Context), (69, S_spec_l30Set), (70, S_spec_l30Row)] []
theorem run_spec_RowPolar (N : Nat) (x : (S_spec_RowPolar).a.den) : runF (A_spec_RowPolar) N Try.f31 S_spec_RowPolar x = spec_RowPolar x.1 x.2.1 := by kernel_rfl
theorem fn_spec_RowPolar : FnOk Try.prog 31 := ⟨_, Try.func31, by kernel_rfl, by kernel_rfl⟩
theorem good_spec_RowPolar : Gx.Good Try.prog 31 S_spec_RowPolar := good_of_run Try.func31 (of_decide_eq_true (by kernel_rfl)) fun x r h => ⟨A_spec_RowPolar, big, mkCfg_ok tabOk, mkCfg_sigs (show SigsOk Try.prog [(68, S_spec_l30Context), (69, S_spec_l30Set), (70, S_spec_l30Row)] from ⟨⟨fn_spec_l30Context, good_spec_l30Context⟩, ⟨fn_spec_l30Set, good_spec_l30Set⟩, ⟨fn_spec_l30Row, good_spec_l30Row⟩, trivial⟩), (run_spec_RowPolar big x).trans h⟩

/-! impl_columnsOf -/
def impl_columnsOf_s (cells_0 : (List (List Bool))) : Option (Int × Unit) :=
  cond (decide ((cells_0.length : Int) = (0 : Int)))
  (some ((0 : Int), (())))
  ((atI cells_0 (0 : Int)).bind fun xq1 =>
  some ((xq1.length : Int), (())))
def impl_columnsOf (cells_0 : (List (List Bool))) : Option (Int × Unit) := impl_columnsOf_s cells_0
def S_impl_columnsOf : Sig := { a := (.pair (.sl (.sl .bool)) .unit), md := [0], mf := [], m := .unit, r := I, rf := .i, f := fun x => impl_columnsOf x.1 }
def A_impl_columnsOf : Cfg := mkCfg tab [] []
theorem run_impl_columnsOf (N : Nat) (x : (S_impl_columnsOf).a.den) : runF (A_impl_columnsOf) N Try.f75 S_impl_columnsOf x = impl_columnsOf x.1 := by kernel_rfl
theorem fn_impl_columnsOf : FnOk Try.prog 75 := ⟨_, Try.func75, by kernel_rfl, by kernel_rfl⟩
theorem good_impl_columnsOf : Gx.Good Try.prog 75 S_impl_columnsOf := good_of_run Try.func75 (of_decide_eq_true (by kernel_rfl)) fun x r h => ⟨A_impl_columnsOf, big, mkCfg_ok tabOk, mkCfg_sigs (show SigsOk Try.prog [] from trivial), (run_impl_columnsOf big x).trans h⟩

/-! impl_IsContext -/
def impl_IsContext_b4 (rec : (List (List Bool)) → (List (List Bool)) → Int → Int → Option (Bool × Unit)) (k : Option (Bool × Unit)) (cells0 : (List (List Bool))) (t13 : (List (List Bool))) (t14 : Int) (t15 : Int) : Option (Bool × Unit) :=
  cond (decide (t15 < t14))
  ((atI t13 t15).bind fun xq2 =>
  (impl_columnsOf cells0).bind fun rq3 =>
  cond (decide ((xq2.length : Int) ≠ rq3.1))
  (some (false, (())))
  (rec cells0 t13 t14 (IntKind.i64.wrap (t15 + (1 : Int)))))
  (k)
def impl_IsContext_a4 : Option (Bool × Unit) :=
  some (true, (()))
def impl_IsContext_s (L4 : (List (List Bool)) → (List (List Bool)) → Int → Int → Option (Bool × Unit)) (cells_0 : (List (List Bool))) : Option (Bool × Unit) :=
  cond (decide ((6 : Int) < (cells_0.length : Int)))
  (some (false, (())))
  ((impl_columnsOf cells_0).bind fun rq1 =>
  cond (decide ((6 : Int) < rq1.1))
  (some (false, (())))
  (L4 cells_0 cells_0 (cells_0.length : Int) (0 : Int)))
def impl_IsContext_l4 (N : Nat) (k : Option (Bool × Unit)) : Nat → (List (List Bool)) → (List (List Bool)) → Int → Int → Option (Bool × Unit)
  | 0, _, _, _, _ => none
  | m + 1, cells0, t13, t14, t15 => impl_IsContext_b4 (impl_IsContext_l4 N k m) k cells0 t13 t14 t15
def impl_IsContext_F4 (N : Nat) (cells0 : (List (List Bool))) (t13 : (List (List Bool))) (t14 : Int) (t15 : Int) : Option (Bool × Unit) := impl_IsContext_l4 N (impl_IsContext_a4) N cells0 t13 t14 t15
def impl_IsContext (N : Nat) (cells_0 : (List (List Bool))) : Option (Bool × Unit) := impl_IsContext_s (impl_IsContext_F4 N) cells_0
def S_impl_IsContext : Sig := { a := (.pair (.sl (.sl .bool)) .unit), md := [0], mf := [], m := .unit, r := .bool, rf := .i, f := fun x => impl_IsContext big x.1 }
def A_impl_IsContext : Cfg := mkCfg tab [(75, S_impl_columnsOf)] [(8, [.as (.sl (.sl .bool)) .i, .drop, .drop, .drop, .drop, .drop, .drop, .drop, .drop, .drop, .drop, .drop, .drop, .as (.sl (.sl .bool)) .i, .as I .i, .as I .i]), (19, [])]
def impl_IsContext_R4 (cd : Code) (N n : Nat) (K : Ex → St → Option (Bool × Unit)) (cells0 : (List (List Bool))) (t13 : (List (List Bool))) (t14 : Int) (t15 : Int) : Option (Bool × Unit) := iter ((A_impl_IsContext).shape 8) (run (A_impl_IsContext) N cd) n ([.val (.sl (.sl .bool)) .i cells0, .u, .u, .u, .u, .u, .u, .u, .u, .u, .u, .u, .u, .val (.sl (.sl .bool)) .i t13, .val I .i t14, .val I .i t15] ++ List.replicate 9 .u) K
theorem impl_IsContext_step4 (N : Nat) (m : Nat) (kX : St → Option (Bool × Unit)) (kO : Nat → St → Option (Bool × Unit)) (cells0 : (List (List Bool))) (t13 : (List (List Bool))) (t14 : Int) (t15 : Int) : impl_IsContext_R4 (codeAt Try.f72 [1, 1, 0, 1, 0, 0]) N (m + 1) (exK (finish (A_impl_IsContext) S_impl_IsContext Try.f72.results.toList) 0 ((A_impl_IsContext).shape 19) kX kO) cells0 t13 t14 t15 = impl_IsContext_b4 (impl_IsContext_R4 (codeAt Try.f72 [1, 1, 0, 1, 0, 0]) N m (exK (finish (A_impl_IsContext) S_impl_IsContext Try.f72.results.toList) 0 ((A_impl_IsContext).shape 19) kX kO)) (kX ([] ++ List.replicate 25 .u)) cells0 t13 t14 t15 := by kernel_rfl
theorem impl_IsContext_iter4 (N : Nat) (kX : St → Option (Bool × Unit)) (kO : Nat → St → Option (Bool × Unit)) : ∀ (n : Nat) (cells0 : (List (List Bool))) (t13 : (List (List Bool))) (t14 : Int) (t15 : Int), impl_IsContext_R4 (codeAt Try.f72 [1, 1, 0, 1, 0, 0]) N n (exK (finish (A_impl_IsContext) S_impl_IsContext Try.f72.results.toList) 0 ((A_impl_IsContext).shape 19) kX kO) cells0 t13 t14 t15 = impl_IsContext_l4 N (kX ([] ++ List.replicate 25 .u)) n cells0 t13 t14 t15
  | 0, _, _, _, _ => rfl
  | m + 1, cells0, t13, t14, t15 => by
    have hrec : impl_IsContext_R4 (codeAt Try.f72 [1, 1, 0, 1, 0, 0]) N m (exK (finish (A_impl_IsContext) S_impl_IsContext Try.f72.results.toList) 0 ((A_impl_IsContext).shape 19) kX kO) = (impl_IsContext_l4 N (kX ([] ++ List.replicate 25 .u)) m) := (funext fun cells0 => (funext fun t13 => (funext fun t14 => (funext fun t15 => impl_IsContext_iter4 N kX kO m cells0 t13 t14 t15))))
    refine (impl_IsContext_step4 N m kX kO cells0 t13 t14 t15).trans ?_
    rw [hrec]
    rfl
theorem impl_IsContext_after4 (N : Nat) : (fun st' => run (A_impl_IsContext) N (codeAt Try.f72 [1, 1, 1]) st' (finish (A_impl_IsContext) S_impl_IsContext Try.f72.results.toList)) ([] ++ List.replicate 25 .u) = impl_IsContext_a4 := by kernel_rfl
theorem impl_IsContext_in4 (N : Nat) (cells0 : (List (List Bool))) (t13 : (List (List Bool))) (t14 : Int) (t15 : Int) : impl_IsContext_R4 (codeAt Try.f72 [1, 1, 0, 1, 0, 0]) N N (blockK 0 (seqK ((A_impl_IsContext).shape 19) (run (A_impl_IsContext) N (codeAt Try.f72 [1, 1, 1])) (finish (A_impl_IsContext) S_impl_IsContext Try.f72.results.toList))) cells0 t13 t14 t15 = impl_IsContext_F4 N cells0 t13 t14 t15 :=
  have h : ((fun st' => run (A_impl_IsContext) N (codeAt Try.f72 [1, 1, 1]) st' (finish (A_impl_IsContext) S_impl_IsContext Try.f72.results.toList)) ([] ++ List.replicate 25 .u)) = (impl_IsContext_a4) := impl_IsContext_after4 N
  have e : impl_IsContext_R4 (codeAt Try.f72 [1, 1, 0, 1, 0, 0]) N N (blockK 0 (seqK ((A_impl_IsContext).shape 19) (run (A_impl_IsContext) N (codeAt Try.f72 [1, 1, 1])) (finish (A_impl_IsContext) S_impl_IsContext Try.f72.results.toList))) cells0 t13 t14 t15 = impl_IsContext_R4 (codeAt Try.f72 [1, 1, 0, 1, 0, 0]) N N (exK (finish (A_impl_IsContext) S_impl_IsContext Try.f72.results.toList) 0 ((A_impl_IsContext).shape 19) (fun st' => run (A_impl_IsContext) N (codeAt Try.f72 [1, 1, 1]) st' (finish (A_impl_IsContext) S_impl_IsContext Try.f72.results.toList)) (fun j st => (blockK 0 (seqK ((A_impl_IsContext).shape 19) (run (A_impl_IsContext) N (codeAt Try.f72 [1, 1, 1])) (finish (A_impl_IsContext) S_impl_IsContext Try.f72.results.toList))) (.exit j) st)) cells0 t13 t14 t15 := iter_ex (fun st => by kernel_rfl) (fun st => by kernel_rfl)
  (e.trans (impl_IsContext_iter4 N (fun st' => run (A_impl_IsContext) N (codeAt Try.f72 [1, 1, 1]) st' (finish (A_impl_IsContext) S_impl_IsContext Try.f72.results.toList)) (fun j st => (blockK 0 (seqK ((A_impl_IsContext).shape 19) (run (A_impl_IsContext) N (codeAt Try.f72 [1, 1, 1])) (finish (A_impl_IsContext) S_impl_IsContext Try.f72.results.toList))) (.exit j) st) N cells0 t13 t14 t15)).trans (congrArg (fun k => impl_IsContext_l4 N k N cells0 t13 t14 t15) h)
theorem run0_impl_IsContext (N : Nat) (x : (S_impl_IsContext).a.den) : runF (A_impl_IsContext) N Try.f72 S_impl_IsContext x = (impl_IsContext_s (impl_IsContext_R4 (codeAt Try.f72 [1, 1, 0, 1, 0, 0]) N N (blockK 0 (seqK ((A_impl_IsContext).shape 19) (run (A_impl_IsContext) N (codeAt Try.f72 [1, 1, 1])) (finish (A_impl_IsContext) S_impl_IsContext Try.f72.results.toList)))) x.1) := by kernel_rfl
theorem run_impl_IsContext (N : Nat) (x : (S_impl_IsContext).a.den) : runF (A_impl_IsContext) N Try.f72 S_impl_IsContext x = impl_IsContext N x.1 := by
  refine (run0_impl_IsContext N x).trans ?_
  rw [(funext fun cells0 => (funext fun t13 => (funext fun t14 => (funext fun t15 => impl_IsContext_in4 N cells0 t13 t14 t15))))]
  rfl
theorem fn_impl_IsContext : FnOk Try.prog 72 := ⟨_, Try.func72, by kernel_rfl, by kernel_rfl⟩
theorem good_impl_IsContext : Gx.Good Try.prog 72 S_impl_IsContext := good_of_run Try.func72 (of_decide_eq_true (by kernel_rfl)) fun x r h => ⟨A_impl_IsContext, big, mkCfg_ok tabOk, mkCfg_sigs (show SigsOk Try.prog [(75, S_impl_columnsOf)] from ⟨⟨fn_impl_columnsOf, good_impl_columnsOf⟩, trivial⟩), (run_impl_IsContext big x).trans h⟩

/-! impl_inSize -/
def impl_inSize_b2 (rec : Int → (List Int) → Int → Int → Option (Bool × Unit)) (k : Option (Bool × Unit)) (n1 : Int) (t7 : (List Int)) (t8 : Int) (t9 : Int) : Option (Bool × Unit) :=
  cond (decide (t9 < t8))
  ((atI t7 t9).bind fun xq1 =>
  cond (decide (xq1 < (0 : Int)))
  (some (false, (())))
  (cond (decide (n1 ≤ xq1))
  (some (false, (())))
  (rec n1 t7 t8 (IntKind.i64.wrap (t9 + (1 : Int))))))
  (k)
def impl_inSize_a2 : Option (Bool × Unit) :=
  some (true, (()))
def impl_inSize_s (L2 : Int → (List Int) → Int → Int → Option (Bool × Unit)) (list_0 : (List Int)) (n_1 : Int) : Option (Bool × Unit) :=
  L2 n_1 list_0 (list_0.length : Int) (0 : Int)
def impl_inSize_l2 (N : Nat) (k : Option (Bool × Unit)) : Nat → Int → (List Int) → Int → Int → Option (Bool × Unit)
  | 0, _, _, _, _ => none
  | m + 1, n1, t7, t8, t9 => impl_inSize_b2 (impl_inSize_l2 N k m) k n1 t7 t8 t9
def impl_inSize_F2 (N : Nat) (n1 : Int) (t7 : (List Int)) (t8 : Int) (t9 : Int) : Option (Bool × Unit) := impl_inSize_l2 N (impl_inSize_a2) N n1 t7 t8 t9
def impl_inSize (N : Nat) (list_0 : (List Int)) (n_1 : Int) : Option (Bool × Unit) := impl_inSize_s (impl_inSize_F2 N) list_0 n_1
def S_impl_inSize : Sig := { a := (.pair (.sl I) (.pair I .unit)), md := [0, 0], mf := [], m := .unit, r := .bool, rf := .i, f := fun x => impl_inSize big x.1 x.2.1 }
def A_impl_inSize : Cfg := mkCfg tab [] [(4, [.drop, .as I .i, .drop, .drop, .drop, .drop, .drop, .as (.sl I) .i, .as I .i, .as I .i]), (15, [])]
def impl_inSize_R2 (cd : Code) (N n : Nat) (K : Ex → St → Option (Bool × Unit)) (n1 : Int) (t7 : (List Int)) (t8 : Int) (t9 : Int) : Option (Bool × Unit) := iter ((A_impl_inSize).shape 4) (run (A_impl_inSize) N cd) n ([.u, .val I .i n1, .u, .u, .u, .u, .u, .val (.sl I) .i t7, .val I .i t8, .val I .i t9] ++ List.replicate 11 .u) K
theorem impl_inSize_step2 (N : Nat) (m : Nat) (kX : St → Option (Bool × Unit)) (kO : Nat → St → Option (Bool × Unit)) (n1 : Int) (t7 : (List Int)) (t8 : Int) (t9 : Int) : impl_inSize_R2 (codeAt Try.f123 [1, 0, 1, 0, 0]) N (m + 1) (exK (finish (A_impl_inSize) S_impl_inSize Try.f123.results.toList) 0 ((A_impl_inSize).shape 15) kX kO) n1 t7 t8 t9 = impl_inSize_b2 (impl_inSize_R2 (codeAt Try.f123 [1, 0, 1, 0, 0]) N m (exK (finish (A_impl_inSize) S_impl_inSize Try.f123.results.toList) 0 ((A_impl_inSize).shape 15) kX kO)) (kX ([] ++ List.replicate 21 .u)) n1 t7 t8 t9 := by kernel_rfl
theorem impl_inSize_iter2 (N : Nat) (kX : St → Option (Bool × Unit)) (kO : Nat → St → Option (Bool × Unit)) : ∀ (n : Nat) (n1 : Int) (t7 : (List Int)) (t8 : Int) (t9 : Int), impl_inSize_R2 (codeAt Try.f123 [1, 0, 1, 0, 0]) N n (exK (finish (A_impl_inSize) S_impl_inSize Try.f123.results.toList) 0 ((A_impl_inSize).shape 15) kX kO) n1 t7 t8 t9 = impl_inSize_l2 N (kX ([] ++ List.replicate 21 .u)) n n1 t7 t8 t9
  | 0, _, _, _, _ => rfl
  | m + 1, n1, t7, t8, t9 => by
    have hrec : impl_inSize_R2 (codeAt Try.f123 [1, 0, 1, 0, 0]) N m (exK (finish (A_impl_inSize) S_impl_inSize Try.f123.results.toList) 0 ((A_impl_inSize).shape 15) kX kO) = (impl_inSize_l2 N (kX ([] ++ List.replicate 21 .u)) m) := (funext fun n1 => (funext fun t7 => (funext fun t8 => (funext fun t9 => impl_inSize_iter2 N kX kO m n1 t7 t8 t9))))
    refine (impl_inSize_step2 N m kX kO n1 t7 t8 t9).trans ?_
    rw [hrec]
    rfl
theorem impl_inSize_after2 (N : Nat) : (fun st' => run (A_impl_inSize) N (codeAt Try.f123 [1, 1]) st' (finish (A_impl_inSize) S_impl_inSize Try.f123.results.toList)) ([] ++ List.replicate 21 .u) = impl_inSize_a2 := by kernel_rfl
theorem impl_inSize_in2 (N : Nat) (n1 : Int) (t7 : (List Int)) (t8 : Int) (t9 : Int) : impl_inSize_R2 (codeAt Try.f123 [1, 0, 1, 0, 0]) N N (blockK 0 (seqK ((A_impl_inSize).shape 15) (run (A_impl_inSize) N (codeAt Try.f123 [1, 1])) (finish (A_impl_inSize) S_impl_inSize Try.f123.results.toList))) n1 t7 t8 t9 = impl_inSize_F2 N n1 t7 t8 t9 :=
  have h : ((fun st' => run (A_impl_inSize) N (codeAt Try.f123 [1, 1]) st' (finish (A_impl_inSize) S_impl_inSize Try.f123.results.toList)) ([] ++ List.replicate 21 .u)) = (impl_inSize_a2) := impl_inSize_after2 N
  have e : impl_inSize_R2 (codeAt Try.f123 [1, 0, 1, 0, 0]) N N (blockK 0 (seqK ((A_impl_inSize).shape 15) (run (A_impl_inSize) N (codeAt Try.f123 [1, 1])) (finish (A_impl_inSize) S_impl_inSize Try.f123.results.toList))) n1 t7 t8 t9 = impl_inSize_R2 (codeAt Try.f123 [1, 0, 1, 0, 0]) N N (exK (finish (A_impl_inSize) S_impl_inSize Try.f123.results.toList) 0 ((A_impl_inSize).shape 15) (fun st' => run (A_impl_inSize) N (codeAt Try.f123 [1, 1]) st' (finish (A_impl_inSize) S_impl_inSize Try.f123.results.toList)) (fun j st => (blockK 0 (seqK ((A_impl_inSize).shape 15) (run (A_impl_inSize) N (codeAt Try.f123 [1, 1])) (finish (A_impl_inSize) S_impl_inSize Try.f123.results.toList))) (.exit j) st)) n1 t7 t8 t9 := iter_ex (fun st => by kernel_rfl) (fun st => by kernel_rfl)
  (e.trans (impl_inSize_iter2 N (fun st' => run (A_impl_inSize) N (codeAt Try.f123 [1, 1]) st' (finish (A_impl_inSize) S_impl_inSize Try.f123.results.toList)) (fun j st => (blockK 0 (seqK ((A_impl_inSize).shape 15) (run (A_impl_inSize) N (codeAt Try.f123 [1, 1])) (finish (A_impl_inSize) S_impl_inSize Try.f123.results.toList))) (.exit j) st) N n1 t7 t8 t9)).trans (congrArg (fun k => impl_inSize_l2 N k N n1 t7 t8 t9) h)
theorem run0_impl_inSize (N : Nat) (x : (S_impl_inSize).a.den) : runF (A_impl_inSize) N Try.f123 S_impl_inSize x = (impl_inSize_s (impl_inSize_R2 (codeAt Try.f123 [1, 0, 1, 0, 0]) N N (blockK 0 (seqK ((A_impl_inSize).shape 15) (run (A_impl_inSize) N (codeAt Try.f123 [1, 1])) (finish (A_impl_inSize) S_impl_inSize Try.f123.results.toList)))) x.1 x.2.1) := by kernel_rfl
theorem run_impl_inSize (N : Nat) (x : (S_impl_inSize).a.den) : runF (A_impl_inSize) N Try.f123 S_impl_inSize x = impl_inSize N x.1 x.2.1 := by
  refine (run0_impl_inSize N x).trans ?_
  rw [(funext fun n1 => (funext fun t7 => (funext fun t8 => (funext fun t9 => impl_inSize_in2 N n1 t7 t8 t9))))]
  rfl
theorem fn_impl_inSize : FnOk Try.prog 123 := ⟨_, Try.func123, by kernel_rfl, by kernel_rfl⟩
theorem good_impl_inSize : Gx.Good Try.prog 123 S_impl_inSize := good_of_run Try.func123 (of_decide_eq_true (by kernel_rfl)) fun x r h => ⟨A_impl_inSize, big, mkCfg_ok tabOk, mkCfg_sigs (show SigsOk Try.prog [] from trivial), (run_impl_inSize big x).trans h⟩

/-! impl_rises -/
def impl_rises_b2 (rec : (List Int) → Int → Option (Bool × Unit)) (k : Option (Bool × Unit)) (list0 : (List Int)) (i3 : Int) : Option (Bool × Unit) :=
  cond (decide (i3 < (list0.length : Int)))
  ((atI list0 (IntKind.i64.wrap (i3 - (1 : Int)))).bind fun xq1 =>
  (atI list0 i3).bind fun xq2 =>
  cond (decide (xq2 ≤ xq1))
  (some (false, (())))
  (rec list0 (IntKind.i64.wrap (i3 + (1 : Int)))))
  (k)
def impl_rises_a2 : Option (Bool × Unit) :=
  some (true, (()))
def impl_rises_s (L2 : (List Int) → Int → Option (Bool × Unit)) (list_0 : (List Int)) : Option (Bool × Unit) :=
  L2 list_0 (1 : Int)
def impl_rises_l2 (N : Nat) (k : Option (Bool × Unit)) : Nat → (List Int) → Int → Option (Bool × Unit)
  | 0, _, _ => none
  | m + 1, list0, i3 => impl_rises_b2 (impl_rises_l2 N k m) k list0 i3
def impl_rises_F2 (N : Nat) (list0 : (List Int)) (i3 : Int) : Option (Bool × Unit) := impl_rises_l2 N (impl_rises_a2) N list0 i3
def impl_rises (N : Nat) (list_0 : (List Int)) : Option (Bool × Unit) := impl_rises_s (impl_rises_F2 N) list_0
def S_impl_rises : Sig := { a := (.pair (.sl I) .unit), md := [0], mf := [], m := .unit, r := .bool, rf := .i, f := fun x => impl_rises big x.1 }
def A_impl_rises : Cfg := mkCfg tab [] [(4, [.as (.sl I) .i, .drop, .drop, .as I .i]), (13, [])]
def impl_rises_R2 (cd : Code) (N n : Nat) (K : Ex → St → Option (Bool × Unit)) (list0 : (List Int)) (i3 : Int) : Option (Bool × Unit) := iter ((A_impl_rises).shape 4) (run (A_impl_rises) N cd) n ([.val (.sl I) .i list0, .u, .u, .val I .i i3] ++ List.replicate 16 .u) K
theorem impl_rises_step2 (N : Nat) (m : Nat) (kX : St → Option (Bool × Unit)) (kO : Nat → St → Option (Bool × Unit)) (list0 : (List Int)) (i3 : Int) : impl_rises_R2 (codeAt Try.f124 [1, 0, 1, 0, 0]) N (m + 1) (exK (finish (A_impl_rises) S_impl_rises Try.f124.results.toList) 0 ((A_impl_rises).shape 13) kX kO) list0 i3 = impl_rises_b2 (impl_rises_R2 (codeAt Try.f124 [1, 0, 1, 0, 0]) N m (exK (finish (A_impl_rises) S_impl_rises Try.f124.results.toList) 0 ((A_impl_rises).shape 13) kX kO)) (kX ([] ++ List.replicate 20 .u)) list0 i3 := by kernel_rfl
theorem impl_rises_iter2 (N : Nat) (kX : St → Option (Bool × Unit)) (kO : Nat → St → Option (Bool × Unit)) : ∀ (n : Nat) (list0 : (List Int)) (i3 : Int), impl_rises_R2 (codeAt Try.f124 [1, 0, 1, 0, 0]) N n (exK (finish (A_impl_rises) S_impl_rises Try.f124.results.toList) 0 ((A_impl_rises).shape 13) kX kO) list0 i3 = impl_rises_l2 N (kX ([] ++ List.replicate 20 .u)) n list0 i3
  | 0, _, _ => rfl
  | m + 1, list0, i3 => by
    have hrec : impl_rises_R2 (codeAt Try.f124 [1, 0, 1, 0, 0]) N m (exK (finish (A_impl_rises) S_impl_rises Try.f124.results.toList) 0 ((A_impl_rises).shape 13) kX kO) = (impl_rises_l2 N (kX ([] ++ List.replicate 20 .u)) m) := (funext fun list0 => (funext fun i3 => impl_rises_iter2 N kX kO m list0 i3))
    refine (impl_rises_step2 N m kX kO list0 i3).trans ?_
    rw [hrec]
    rfl
theorem impl_rises_after2 (N : Nat) : (fun st' => run (A_impl_rises) N (codeAt Try.f124 [1, 1]) st' (finish (A_impl_rises) S_impl_rises Try.f124.results.toList)) ([] ++ List.replicate 20 .u) = impl_rises_a2 := by kernel_rfl
theorem impl_rises_in2 (N : Nat) (list0 : (List Int)) (i3 : Int) : impl_rises_R2 (codeAt Try.f124 [1, 0, 1, 0, 0]) N N (blockK 0 (seqK ((A_impl_rises).shape 13) (run (A_impl_rises) N (codeAt Try.f124 [1, 1])) (finish (A_impl_rises) S_impl_rises Try.f124.results.toList))) list0 i3 = impl_rises_F2 N list0 i3 :=
  have h : ((fun st' => run (A_impl_rises) N (codeAt Try.f124 [1, 1]) st' (finish (A_impl_rises) S_impl_rises Try.f124.results.toList)) ([] ++ List.replicate 20 .u)) = (impl_rises_a2) := impl_rises_after2 N
  have e : impl_rises_R2 (codeAt Try.f124 [1, 0, 1, 0, 0]) N N (blockK 0 (seqK ((A_impl_rises).shape 13) (run (A_impl_rises) N (codeAt Try.f124 [1, 1])) (finish (A_impl_rises) S_impl_rises Try.f124.results.toList))) list0 i3 = impl_rises_R2 (codeAt Try.f124 [1, 0, 1, 0, 0]) N N (exK (finish (A_impl_rises) S_impl_rises Try.f124.results.toList) 0 ((A_impl_rises).shape 13) (fun st' => run (A_impl_rises) N (codeAt Try.f124 [1, 1]) st' (finish (A_impl_rises) S_impl_rises Try.f124.results.toList)) (fun j st => (blockK 0 (seqK ((A_impl_rises).shape 13) (run (A_impl_rises) N (codeAt Try.f124 [1, 1])) (finish (A_impl_rises) S_impl_rises Try.f124.results.toList))) (.exit j) st)) list0 i3 := iter_ex (fun st => by kernel_rfl) (fun st => by kernel_rfl)
  (e.trans (impl_rises_iter2 N (fun st' => run (A_impl_rises) N (codeAt Try.f124 [1, 1]) st' (finish (A_impl_rises) S_impl_rises Try.f124.results.toList)) (fun j st => (blockK 0 (seqK ((A_impl_rises).shape 13) (run (A_impl_rises) N (codeAt Try.f124 [1, 1])) (finish (A_impl_rises) S_impl_rises Try.f124.results.toList))) (.exit j) st) N list0 i3)).trans (congrArg (fun k => impl_rises_l2 N k N list0 i3) h)
theorem run0_impl_rises (N : Nat) (x : (S_impl_rises).a.den) : runF (A_impl_rises) N Try.f124 S_impl_rises x = (impl_rises_s (impl_rises_R2 (codeAt Try.f124 [1, 0, 1, 0, 0]) N N (blockK 0 (seqK ((A_impl_rises).shape 13) (run (A_impl_rises) N (codeAt Try.f124 [1, 1])) (finish (A_impl_rises) S_impl_rises Try.f124.results.toList)))) x.1) := by kernel_rfl
theorem run_impl_rises (N : Nat) (x : (S_impl_rises).a.den) : runF (A_impl_rises) N Try.f124 S_impl_rises x = impl_rises N x.1 := by
  refine (run0_impl_rises N x).trans ?_
  rw [(funext fun list0 => (funext fun i3 => impl_rises_in2 N list0 i3))]
  rfl
theorem fn_impl_rises : FnOk Try.prog 124 := ⟨_, Try.func124, by kernel_rfl, by kernel_rfl⟩
theorem good_impl_rises : Gx.Good Try.prog 124 S_impl_rises := good_of_run Try.func124 (of_decide_eq_true (by kernel_rfl)) fun x r h => ⟨A_impl_rises, big, mkCfg_ok tabOk, mkCfg_sigs (show SigsOk Try.prog [] from trivial), (run_impl_rises big x).trans h⟩

/-! impl_isSetOf -/
def impl_isSetOf_s (n_0 : Int) (set_1 : (List Int)) : Option (Bool × Unit) :=
  (impl_inSize big set_1 n_0).bind fun rq1 =>
  cond rq1.1
  ((impl_rises big set_1).bind fun rq2 =>
  some (rq2.1, (())))
  (some (false, (())))
def impl_isSetOf (n_0 : Int) (set_1 : (List Int)) : Option (Bool × Unit) := impl_isSetOf_s n_0 set_1
def S_impl_isSetOf : Sig := { a := (.pair I (.pair (.sl I) .unit)), md := [0, 0], mf := [], m := .unit, r := .bool, rf := .i, f := fun x => impl_isSetOf x.1 x.2.1 }
def A_impl_isSetOf : Cfg := mkCfg tab [(123, S_impl_inSize), (124, S_impl_rises)] []
theorem run_impl_isSetOf (N : Nat) (x : (S_impl_isSetOf).a.den) : runF (A_impl_isSetOf) N Try.f73 S_impl_isSetOf x = impl_isSetOf x.1 x.2.1 := by kernel_rfl
theorem fn_impl_isSetOf : FnOk Try.prog 73 := ⟨_, Try.func73, by kernel_rfl, by kernel_rfl⟩
theorem good_impl_isSetOf : Gx.Good Try.prog 73 S_impl_isSetOf := good_of_run Try.func73 (of_decide_eq_true (by kernel_rfl)) fun x r h => ⟨A_impl_isSetOf, big, mkCfg_ok tabOk, mkCfg_sigs (show SigsOk Try.prog [(123, S_impl_inSize), (124, S_impl_rises)] from ⟨⟨fn_impl_inSize, good_impl_inSize⟩, ⟨fn_impl_rises, good_impl_rises⟩, trivial⟩), (run_impl_isSetOf big x).trans h⟩

/-! impl_RowPolar_c1 -/
def impl_RowPolar_c1_s (x_0 : Int) (y_1 : Int) (p_2 : (List (List Bool))) : Option (Bool × Unit) :=
  (atI p_2 x_0).bind fun xq1 =>
  (atI xq1 y_1).bind fun xq2 =>
  some (xq2, (()))
def impl_RowPolar_c1 (x_0 : Int) (y_1 : Int) (p_2 : (List (List Bool))) : Option (Bool × Unit) := impl_RowPolar_c1_s x_0 y_1 p_2
def S_impl_RowPolar_c1 : Sig := { a := (.pair I (.pair I (.pair (.ptr (.sl (.sl .bool))) .unit))), md := [0, 0, 0], mf := [], m := .unit, r := .bool, rf := .i, f := fun x => impl_RowPolar_c1 x.1 x.2.1 x.2.2.1 }
def A_impl_RowPolar_c1 : Cfg := mkCfg tab [] []
theorem run_impl_RowPolar_c1 (N : Nat) (x : (S_impl_RowPolar_c1).a.den) : runF (A_impl_RowPolar_c1) N Try.f76 S_impl_RowPolar_c1 x = impl_RowPolar_c1 x.1 x.2.1 x.2.2.1 := by kernel_rfl
theorem fn_impl_RowPolar_c1 : FnOk Try.prog 76 := ⟨_, Try.func76, by kernel_rfl, by kernel_rfl⟩
theorem good_impl_RowPolar_c1 : Gx.Good Try.prog 76 S_impl_RowPolar_c1 := good_of_run Try.func76 (of_decide_eq_true (by kernel_rfl)) fun x r h => ⟨A_impl_RowPolar_c1, big, mkCfg_ok tabOk, mkCfg_sigs (show SigsOk Try.prog [] from trivial), (run_impl_RowPolar_c1 big x).trans h⟩

/-! impl_polar_k_RowPolar_c1 -/
def impl_polar_k_RowPolar_c1_b7 (rec : Int → (List Int) → ((List (List Bool)) × Unit) → (List Int) → Int → Bool → (List Int) → Int → Int → Option ((List Int) × Unit)) (k : Int → (List Int) → ((List (List Bool)) × Unit) → (List Int) → Int → Bool → Option ((List Int) × Unit)) (n0 : Int) (set1 : (List Int)) (cell2 : ((List (List Bool)) × Unit)) (list7 : (List Int)) (y8 : Int) (all9 : Bool) (t18 : (List Int)) (t19 : Int) (t20 : Int) : Option ((List Int) × Unit) :=
  cond (decide (t20 < t19))
  ((atI t18 t20).bind fun xq1 =>
  cond all9
  ((impl_RowPolar_c1 xq1 y8 cell2.1).bind fun rq2 =>
  rec n0 set1 cell2 list7 y8 rq2.1 t18 t19 (IntKind.i64.wrap (t20 + (1 : Int))))
  (rec n0 set1 cell2 list7 y8 false t18 t19 (IntKind.i64.wrap (t20 + (1 : Int)))))
  (k n0 set1 cell2 list7 y8 all9)
def impl_polar_k_RowPolar_c1_a7 (rec : Int → (List Int) → ((List (List Bool)) × Unit) → (List Int) → Int → Option ((List Int) × Unit)) (n0 : Int) (set1 : (List Int)) (cell2 : ((List (List Bool)) × Unit)) (list7 : (List Int)) (y8 : Int) (all9 : Bool) : Option ((List Int) × Unit) :=
  cond all9
  ((appI list7 [y8]).bind fun xq3 =>
  rec n0 set1 cell2 xq3 (IntKind.i64.wrap (y8 + (1 : Int))))
  (rec n0 set1 cell2 list7 (IntKind.i64.wrap (y8 + (1 : Int))))
def impl_polar_k_RowPolar_c1_b3 (L7 : Int → (List Int) → ((List (List Bool)) × Unit) → (List Int) → Int → Bool → (List Int) → Int → Int → Option ((List Int) × Unit)) (k : (List Int) → Option ((List Int) × Unit)) (n0 : Int) (set1 : (List Int)) (cell2 : ((List (List Bool)) × Unit)) (list7 : (List Int)) (y8 : Int) : Option ((List Int) × Unit) :=
  cond (decide (y8 < n0))
  (L7 n0 set1 cell2 list7 y8 true set1 (set1.length : Int) (0 : Int))
  (k list7)
def impl_polar_k_RowPolar_c1_a3 (list7 : (List Int)) : Option ((List Int) × Unit) :=
  some (list7, (()))
def impl_polar_k_RowPolar_c1_s (L3 : Int → (List Int) → ((List (List Bool)) × Unit) → (List Int) → Int → Option ((List Int) × Unit)) (n_0 : Int) (set_1 : (List Int)) (cell_2 : ((List (List Bool)) × Unit)) : Option ((List Int) × Unit) :=
  L3 n_0 set_1 cell_2 [] (0 : Int)
def impl_polar_k_RowPolar_c1_l7 (N : Nat) (k : Int → (List Int) → ((List (List Bool)) × Unit) → (List Int) → Int → Bool → Option ((List Int) × Unit)) : Nat → Int → (List Int) → ((List (List Bool)) × Unit) → (List Int) → Int → Bool → (List Int) → Int → Int → Option ((List Int) × Unit)
  | 0, _, _, _, _, _, _, _, _, _ => none
  | m + 1, n0, set1, cell2, list7, y8, all9, t18, t19, t20 => impl_polar_k_RowPolar_c1_b7 (impl_polar_k_RowPolar_c1_l7 N k m) k n0 set1 cell2 list7 y8 all9 t18 t19 t20
def impl_polar_k_RowPolar_c1_F7 (N : Nat) (rec : Int → (List Int) → ((List (List Bool)) × Unit) → (List Int) → Int → Option ((List Int) × Unit)) (k : (List Int) → Option ((List Int) × Unit)) (n0 : Int) (set1 : (List Int)) (cell2 : ((List (List Bool)) × Unit)) (list7 : (List Int)) (y8 : Int) (all9 : Bool) (t18 : (List Int)) (t19 : Int) (t20 : Int) : Option ((List Int) × Unit) := impl_polar_k_RowPolar_c1_l7 N (impl_polar_k_RowPolar_c1_a7 rec) N n0 set1 cell2 list7 y8 all9 t18 t19 t20
def impl_polar_k_RowPolar_c1_l3 (N : Nat) (k : (List Int) → Option ((List Int) × Unit)) : Nat → Int → (List Int) → ((List (List Bool)) × Unit) → (List Int) → Int → Option ((List Int) × Unit)
  | 0, _, _, _, _, _ => none
  | m + 1, n0, set1, cell2, list7, y8 => impl_polar_k_RowPolar_c1_b3 (impl_polar_k_RowPolar_c1_F7 N (impl_polar_k_RowPolar_c1_l3 N k m) k) k n0 set1 cell2 list7 y8
def impl_polar_k_RowPolar_c1_F3 (N : Nat) (n0 : Int) (set1 : (List Int)) (cell2 : ((List (List Bool)) × Unit)) (list7 : (List Int)) (y8 : Int) : Option ((List Int) × Unit) := impl_polar_k_RowPolar_c1_l3 N (impl_polar_k_RowPolar_c1_a3) N n0 set1 cell2 list7 y8
def impl_polar_k_RowPolar_c1 (N : Nat) (n_0 : Int) (set_1 : (List Int)) (cell_2 : ((List (List Bool)) × Unit)) : Option ((List Int) × Unit) := impl_polar_k_RowPolar_c1_s (impl_polar_k_RowPolar_c1_F3 N) n_0 set_1 cell_2
def S_impl_polar_k_RowPolar_c1 : Sig := { a := (.pair I (.pair (.sl I) (.pair (.clo 76 0 (.pair (.ptr (.sl (.sl .bool))) .unit)) .unit))), md := [0, 0, 0], mf := [], m := .unit, r := (.sl I), rf := (.o .i), f := fun x => impl_polar_k_RowPolar_c1 big x.1 x.2.1 x.2.2.1 }
def A_impl_polar_k_RowPolar_c1 : Cfg := mkCfg tab [(76, S_impl_RowPolar_c1)] [(6, [.as I .i, .as (.sl I) .i, .as (.clo 76 0 (.pair (.ptr (.sl (.sl .bool))) .unit)) .i, .drop, .drop, .drop, .drop, .as (.sl I) (.o .i), .as I .i]), (14, [.as I .i, .as (.sl I) .i, .as (.clo 76 0 (.pair (.ptr (.sl (.sl .bool))) .unit)) .i, .drop, .drop, .drop, .drop, .as (.sl I) (.o .i), .as I .i, .as .bool .i, .drop, .drop, .drop, .drop, .drop, .drop, .drop, .drop, .as (.sl I) .i, .as I .i, .as I .i]), (27, [.drop, .drop, .drop, .drop, .drop, .drop, .drop, .as (.sl I) (.o .i)]), (23, [.as I .i, .as (.sl I) .i, .as (.clo 76 0 (.pair (.ptr (.sl (.sl .bool))) .unit)) .i, .drop, .drop, .drop, .drop, .as (.sl I) (.o .i), .as I .i, .as .bool .i])]
def impl_polar_k_RowPolar_c1_R3 (cd : Code) (N n : Nat) (K : Ex → St → Option ((List Int) × Unit)) (n0 : Int) (set1 : (List Int)) (cell2 : ((List (List Bool)) × Unit)) (list7 : (List Int)) (y8 : Int) : Option ((List Int) × Unit) := iter ((A_impl_polar_k_RowPolar_c1).shape 6) (run (A_impl_polar_k_RowPolar_c1) N cd) n ([.val I .i n0, .val (.sl I) .i set1, .val (.clo 76 0 (.pair (.ptr (.sl (.sl .bool))) .unit)) .i cell2, .u, .u, .u, .u, .val (.sl I) (.o .i) list7, .val I .i y8] ++ List.replicate 29 .u) K
def impl_polar_k_RowPolar_c1_R7 (cd : Code) (N n : Nat) (K : Ex → St → Option ((List Int) × Unit)) (n0 : Int) (set1 : (List Int)) (cell2 : ((List (List Bool)) × Unit)) (list7 : (List Int)) (y8 : Int) (all9 : Bool) (t18 : (List Int)) (t19 : Int) (t20 : Int) : Option ((List Int) × Unit) := iter ((A_impl_polar_k_RowPolar_c1).shape 14) (run (A_impl_polar_k_RowPolar_c1) N cd) n ([.val I .i n0, .val (.sl I) .i set1, .val (.clo 76 0 (.pair (.ptr (.sl (.sl .bool))) .unit)) .i cell2, .u, .u, .u, .u, .val (.sl I) (.o .i) list7, .val I .i y8, .val .bool .i all9, .u, .u, .u, .u, .u, .u, .u, .u, .val (.sl I) .i t18, .val I .i t19, .val I .i t20] ++ List.replicate 17 .u) K
theorem impl_polar_k_RowPolar_c1_step7 (N : Nat) (m : Nat) (kX : St → Option ((List Int) × Unit)) (kO : Nat → St → Option ((List Int) × Unit)) (n0 : Int) (set1 : (List Int)) (cell2 : ((List (List Bool)) × Unit)) (list7 : (List Int)) (y8 : Int) (all9 : Bool) (t18 : (List Int)) (t19 : Int) (t20 : Int) : impl_polar_k_RowPolar_c1_R7 (codeAt Try.f74 [1, 1, 0, 1, 0, 0, 1, 0, 0, 1, 0, 1, 0, 0]) N (m + 1) (exK (finish (A_impl_polar_k_RowPolar_c1) S_impl_polar_k_RowPolar_c1 Try.f74.results.toList) 2 ((A_impl_polar_k_RowPolar_c1).shape 23) kX kO) n0 set1 cell2 list7 y8 all9 t18 t19 t20 = impl_polar_k_RowPolar_c1_b7 (impl_polar_k_RowPolar_c1_R7 (codeAt Try.f74 [1, 1, 0, 1, 0, 0, 1, 0, 0, 1, 0, 1, 0, 0]) N m (exK (finish (A_impl_polar_k_RowPolar_c1) S_impl_polar_k_RowPolar_c1 Try.f74.results.toList) 2 ((A_impl_polar_k_RowPolar_c1).shape 23) kX kO)) (fun (n0 : Int) (set1 : (List Int)) (cell2 : ((List (List Bool)) × Unit)) (list7 : (List Int)) (y8 : Int) (all9 : Bool) => kX ([.val I .i n0, .val (.sl I) .i set1, .val (.clo 76 0 (.pair (.ptr (.sl (.sl .bool))) .unit)) .i cell2, .u, .u, .u, .u, .val (.sl I) (.o .i) list7, .val I .i y8, .val .bool .i all9] ++ List.replicate 28 .u)) n0 set1 cell2 list7 y8 all9 t18 t19 t20 := by kernel_rfl
theorem impl_polar_k_RowPolar_c1_iter7 (N : Nat) (kX : St → Option ((List Int) × Unit)) (kO : Nat → St → Option ((List Int) × Unit)) : ∀ (n : Nat) (n0 : Int) (set1 : (List Int)) (cell2 : ((List (List Bool)) × Unit)) (list7 : (List Int)) (y8 : Int) (all9 : Bool) (t18 : (List Int)) (t19 : Int) (t20 : Int), impl_polar_k_RowPolar_c1_R7 (codeAt Try.f74 [1, 1, 0, 1, 0, 0, 1, 0, 0, 1, 0, 1, 0, 0]) N n (exK (finish (A_impl_polar_k_RowPolar_c1) S_impl_polar_k_RowPolar_c1 Try.f74.results.toList) 2 ((A_impl_polar_k_RowPolar_c1).shape 23) kX kO) n0 set1 cell2 list7 y8 all9 t18 t19 t20 = impl_polar_k_RowPolar_c1_l7 N (fun (n0 : Int) (set1 : (List Int)) (cell2 : ((List (List Bool)) × Unit)) (list7 : (List Int)) (y8 : Int) (all9 : Bool) => kX ([.val I .i n0, .val (.sl I) .i set1, .val (.clo 76 0 (.pair (.ptr (.sl (.sl .bool))) .unit)) .i cell2, .u, .u, .u, .u, .val (.sl I) (.o .i) list7, .val I .i y8, .val .bool .i all9] ++ List.replicate 28 .u)) n n0 set1 cell2 list7 y8 all9 t18 t19 t20
  | 0, _, _, _, _, _, _, _, _, _ => rfl
  | m + 1, n0, set1, cell2, list7, y8, all9, t18, t19, t20 => by
    have hrec : impl_polar_k_RowPolar_c1_R7 (codeAt Try.f74 [1, 1, 0, 1, 0, 0, 1, 0, 0, 1, 0, 1, 0, 0]) N m (exK (finish (A_impl_polar_k_RowPolar_c1) S_impl_polar_k_RowPolar_c1 Try.f74.results.toList) 2 ((A_impl_polar_k_RowPolar_c1).shape 23) kX kO) = (impl_polar_k_RowPolar_c1_l7 N (fun (n0 : Int) (set1 : (List Int)) (cell2 : ((List (List Bool)) × Unit)) (list7 : (List Int)) (y8 : Int) (all9 : Bool) => kX ([.val I .i n0, .val (.sl I) .i set1, .val (.clo 76 0 (.pair (.ptr (.sl (.sl .bool))) .unit)) .i cell2, .u, .u, .u, .u, .val (.sl I) (.o .i) list7, .val I .i y8, .val .bool .i all9] ++ List.replicate 28 .u)) m) := (funext fun n0 => (funext fun set1 => (funext fun cell2 => (funext fun list7 => (funext fun y8 => (funext fun all9 => (funext fun t18 => (funext fun t19 => (funext fun t20 => impl_polar_k_RowPolar_c1_iter7 N kX kO m n0 set1 cell2 list7 y8 all9 t18 t19 t20)))))))))
    refine (impl_polar_k_RowPolar_c1_step7 N m kX kO n0 set1 cell2 list7 y8 all9 t18 t19 t20).trans ?_
    rw [hrec]
    rfl
theorem impl_polar_k_RowPolar_c1_after7 (N : Nat) (m : Nat) (kX : St → Option ((List Int) × Unit)) (kO : Nat → St → Option ((List Int) × Unit)) (n0 : Int) (set1 : (List Int)) (cell2 : ((List (List Bool)) × Unit)) (list7 : (List Int)) (y8 : Int) (all9 : Bool) : (fun st' => run (A_impl_polar_k_RowPolar_c1) N (codeAt Try.f74 [1, 1, 0, 1, 0, 0, 1, 0, 0, 1, 1]) st' (blockK 1 (seqK ((A_impl_polar_k_RowPolar_c1).shape 9) (run (A_impl_polar_k_RowPolar_c1) N (codeAt Try.f74 [1, 1, 0, 1, 0, 0, 1, 1])) (iterK ((A_impl_polar_k_RowPolar_c1).shape 6) (run (A_impl_polar_k_RowPolar_c1) N (codeAt Try.f74 [1, 1, 0, 1, 0, 0])) m (exK (finish (A_impl_polar_k_RowPolar_c1) S_impl_polar_k_RowPolar_c1 Try.f74.results.toList) 0 ((A_impl_polar_k_RowPolar_c1).shape 27) kX kO))))) ([.val I .i n0, .val (.sl I) .i set1, .val (.clo 76 0 (.pair (.ptr (.sl (.sl .bool))) .unit)) .i cell2, .u, .u, .u, .u, .val (.sl I) (.o .i) list7, .val I .i y8, .val .bool .i all9] ++ List.replicate 28 .u) = impl_polar_k_RowPolar_c1_a7 (impl_polar_k_RowPolar_c1_R3 (codeAt Try.f74 [1, 1, 0, 1, 0, 0]) N m (exK (finish (A_impl_polar_k_RowPolar_c1) S_impl_polar_k_RowPolar_c1 Try.f74.results.toList) 0 ((A_impl_polar_k_RowPolar_c1).shape 27) kX kO)) n0 set1 cell2 list7 y8 all9 := by kernel_rfl
theorem impl_polar_k_RowPolar_c1_in7 (N : Nat) (m : Nat) (kX : St → Option ((List Int) × Unit)) (kO : Nat → St → Option ((List Int) × Unit)) (recF : Int → (List Int) → ((List (List Bool)) × Unit) → (List Int) → Int → Option ((List Int) × Unit)) (hrec : impl_polar_k_RowPolar_c1_R3 (codeAt Try.f74 [1, 1, 0, 1, 0, 0]) N m (exK (finish (A_impl_polar_k_RowPolar_c1) S_impl_polar_k_RowPolar_c1 Try.f74.results.toList) 0 ((A_impl_polar_k_RowPolar_c1).shape 27) kX kO) = recF) (n0 : Int) (set1 : (List Int)) (cell2 : ((List (List Bool)) × Unit)) (list7 : (List Int)) (y8 : Int) (all9 : Bool) (t18 : (List Int)) (t19 : Int) (t20 : Int) : impl_polar_k_RowPolar_c1_R7 (codeAt Try.f74 [1, 1, 0, 1, 0, 0, 1, 0, 0, 1, 0, 1, 0, 0]) N N (blockK 2 (seqK ((A_impl_polar_k_RowPolar_c1).shape 23) (run (A_impl_polar_k_RowPolar_c1) N (codeAt Try.f74 [1, 1, 0, 1, 0, 0, 1, 0, 0, 1, 1])) (blockK 1 (seqK ((A_impl_polar_k_RowPolar_c1).shape 9) (run (A_impl_polar_k_RowPolar_c1) N (codeAt Try.f74 [1, 1, 0, 1, 0, 0, 1, 1])) (iterK ((A_impl_polar_k_RowPolar_c1).shape 6) (run (A_impl_polar_k_RowPolar_c1) N (codeAt Try.f74 [1, 1, 0, 1, 0, 0])) m (exK (finish (A_impl_polar_k_RowPolar_c1) S_impl_polar_k_RowPolar_c1 Try.f74.results.toList) 0 ((A_impl_polar_k_RowPolar_c1).shape 27) kX kO)))))) n0 set1 cell2 list7 y8 all9 t18 t19 t20 = impl_polar_k_RowPolar_c1_F7 N recF (fun (list7 : (List Int)) => kX ([.u, .u, .u, .u, .u, .u, .u, .val (.sl I) (.o .i) list7] ++ List.replicate 30 .u)) n0 set1 cell2 list7 y8 all9 t18 t19 t20 :=
  have h : (fun (n0 : Int) (set1 : (List Int)) (cell2 : ((List (List Bool)) × Unit)) (list7 : (List Int)) (y8 : Int) (all9 : Bool) => (fun st' => run (A_impl_polar_k_RowPolar_c1) N (codeAt Try.f74 [1, 1, 0, 1, 0, 0, 1, 0, 0, 1, 1]) st' (blockK 1 (seqK ((A_impl_polar_k_RowPolar_c1).shape 9) (run (A_impl_polar_k_RowPolar_c1) N (codeAt Try.f74 [1, 1, 0, 1, 0, 0, 1, 1])) (iterK ((A_impl_polar_k_RowPolar_c1).shape 6) (run (A_impl_polar_k_RowPolar_c1) N (codeAt Try.f74 [1, 1, 0, 1, 0, 0])) m (exK (finish (A_impl_polar_k_RowPolar_c1) S_impl_polar_k_RowPolar_c1 Try.f74.results.toList) 0 ((A_impl_polar_k_RowPolar_c1).shape 27) kX kO))))) ([.val I .i n0, .val (.sl I) .i set1, .val (.clo 76 0 (.pair (.ptr (.sl (.sl .bool))) .unit)) .i cell2, .u, .u, .u, .u, .val (.sl I) (.o .i) list7, .val I .i y8, .val .bool .i all9] ++ List.replicate 28 .u)) = (impl_polar_k_RowPolar_c1_a7 recF) := (funext fun n0 => (funext fun set1 => (funext fun cell2 => (funext fun list7 => (funext fun y8 => (funext fun all9 => (impl_polar_k_RowPolar_c1_after7 N m kX kO n0 set1 cell2 list7 y8 all9).trans (by rw [hrec])))))))
  have e : impl_polar_k_RowPolar_c1_R7 (codeAt Try.f74 [1, 1, 0, 1, 0, 0, 1, 0, 0, 1, 0, 1, 0, 0]) N N (blockK 2 (seqK ((A_impl_polar_k_RowPolar_c1).shape 23) (run (A_impl_polar_k_RowPolar_c1) N (codeAt Try.f74 [1, 1, 0, 1, 0, 0, 1, 0, 0, 1, 1])) (blockK 1 (seqK ((A_impl_polar_k_RowPolar_c1).shape 9) (run (A_impl_polar_k_RowPolar_c1) N (codeAt Try.f74 [1, 1, 0, 1, 0, 0, 1, 1])) (iterK ((A_impl_polar_k_RowPolar_c1).shape 6) (run (A_impl_polar_k_RowPolar_c1) N (codeAt Try.f74 [1, 1, 0, 1, 0, 0])) m (exK (finish (A_impl_polar_k_RowPolar_c1) S_impl_polar_k_RowPolar_c1 Try.f74.results.toList) 0 ((A_impl_polar_k_RowPolar_c1).shape 27) kX kO)))))) n0 set1 cell2 list7 y8 all9 t18 t19 t20 = impl_polar_k_RowPolar_c1_R7 (codeAt Try.f74 [1, 1, 0, 1, 0, 0, 1, 0, 0, 1, 0, 1, 0, 0]) N N (exK (finish (A_impl_polar_k_RowPolar_c1) S_impl_polar_k_RowPolar_c1 Try.f74.results.toList) 2 ((A_impl_polar_k_RowPolar_c1).shape 23) (fun st' => run (A_impl_polar_k_RowPolar_c1) N (codeAt Try.f74 [1, 1, 0, 1, 0, 0, 1, 0, 0, 1, 1]) st' (blockK 1 (seqK ((A_impl_polar_k_RowPolar_c1).shape 9) (run (A_impl_polar_k_RowPolar_c1) N (codeAt Try.f74 [1, 1, 0, 1, 0, 0, 1, 1])) (iterK ((A_impl_polar_k_RowPolar_c1).shape 6) (run (A_impl_polar_k_RowPolar_c1) N (codeAt Try.f74 [1, 1, 0, 1, 0, 0])) m (exK (finish (A_impl_polar_k_RowPolar_c1) S_impl_polar_k_RowPolar_c1 Try.f74.results.toList) 0 ((A_impl_polar_k_RowPolar_c1).shape 27) kX kO))))) (fun j st => (blockK 2 (seqK ((A_impl_polar_k_RowPolar_c1).shape 23) (run (A_impl_polar_k_RowPolar_c1) N (codeAt Try.f74 [1, 1, 0, 1, 0, 0, 1, 0, 0, 1, 1])) (blockK 1 (seqK ((A_impl_polar_k_RowPolar_c1).shape 9) (run (A_impl_polar_k_RowPolar_c1) N (codeAt Try.f74 [1, 1, 0, 1, 0, 0, 1, 1])) (iterK ((A_impl_polar_k_RowPolar_c1).shape 6) (run (A_impl_polar_k_RowPolar_c1) N (codeAt Try.f74 [1, 1, 0, 1, 0, 0])) m (exK (finish (A_impl_polar_k_RowPolar_c1) S_impl_polar_k_RowPolar_c1 Try.f74.results.toList) 0 ((A_impl_polar_k_RowPolar_c1).shape 27) kX kO)))))) (.exit j) st)) n0 set1 cell2 list7 y8 all9 t18 t19 t20 := iter_ex (fun st => by kernel_rfl) (fun st => by kernel_rfl)
  (e.trans (impl_polar_k_RowPolar_c1_iter7 N (fun st' => run (A_impl_polar_k_RowPolar_c1) N (codeAt Try.f74 [1, 1, 0, 1, 0, 0, 1, 0, 0, 1, 1]) st' (blockK 1 (seqK ((A_impl_polar_k_RowPolar_c1).shape 9) (run (A_impl_polar_k_RowPolar_c1) N (codeAt Try.f74 [1, 1, 0, 1, 0, 0, 1, 1])) (iterK ((A_impl_polar_k_RowPolar_c1).shape 6) (run (A_impl_polar_k_RowPolar_c1) N (codeAt Try.f74 [1, 1, 0, 1, 0, 0])) m (exK (finish (A_impl_polar_k_RowPolar_c1) S_impl_polar_k_RowPolar_c1 Try.f74.results.toList) 0 ((A_impl_polar_k_RowPolar_c1).shape 27) kX kO))))) (fun j st => (blockK 2 (seqK ((A_impl_polar_k_RowPolar_c1).shape 23) (run (A_impl_polar_k_RowPolar_c1) N (codeAt Try.f74 [1, 1, 0, 1, 0, 0, 1, 0, 0, 1, 1])) (blockK 1 (seqK ((A_impl_polar_k_RowPolar_c1).shape 9) (run (A_impl_polar_k_RowPolar_c1) N (codeAt Try.f74 [1, 1, 0, 1, 0, 0, 1, 1])) (iterK ((A_impl_polar_k_RowPolar_c1).shape 6) (run (A_impl_polar_k_RowPolar_c1) N (codeAt Try.f74 [1, 1, 0, 1, 0, 0])) m (exK (finish (A_impl_polar_k_RowPolar_c1) S_impl_polar_k_RowPolar_c1 Try.f74.results.toList) 0 ((A_impl_polar_k_RowPolar_c1).shape 27) kX kO)))))) (.exit j) st) N n0 set1 cell2 list7 y8 all9 t18 t19 t20)).trans (congrArg (fun k => impl_polar_k_RowPolar_c1_l7 N k N n0 set1 cell2 list7 y8 all9 t18 t19 t20) h)
theorem impl_polar_k_RowPolar_c1_step3 (N : Nat) (m : Nat) (kX : St → Option ((List Int) × Unit)) (kO : Nat → St → Option ((List Int) × Unit)) (n0 : Int) (set1 : (List Int)) (cell2 : ((List (List Bool)) × Unit)) (list7 : (List Int)) (y8 : Int) : impl_polar_k_RowPolar_c1_R3 (codeAt Try.f74 [1, 1, 0, 1, 0, 0]) N (m + 1) (exK (finish (A_impl_polar_k_RowPolar_c1) S_impl_polar_k_RowPolar_c1 Try.f74.results.toList) 0 ((A_impl_polar_k_RowPolar_c1).shape 27) kX kO) n0 set1 cell2 list7 y8 = impl_polar_k_RowPolar_c1_b3 (impl_polar_k_RowPolar_c1_R7 (codeAt Try.f74 [1, 1, 0, 1, 0, 0, 1, 0, 0, 1, 0, 1, 0, 0]) N N (blockK 2 (seqK ((A_impl_polar_k_RowPolar_c1).shape 23) (run (A_impl_polar_k_RowPolar_c1) N (codeAt Try.f74 [1, 1, 0, 1, 0, 0, 1, 0, 0, 1, 1])) (blockK 1 (seqK ((A_impl_polar_k_RowPolar_c1).shape 9) (run (A_impl_polar_k_RowPolar_c1) N (codeAt Try.f74 [1, 1, 0, 1, 0, 0, 1, 1])) (iterK ((A_impl_polar_k_RowPolar_c1).shape 6) (run (A_impl_polar_k_RowPolar_c1) N (codeAt Try.f74 [1, 1, 0, 1, 0, 0])) m (exK (finish (A_impl_polar_k_RowPolar_c1) S_impl_polar_k_RowPolar_c1 Try.f74.results.toList) 0 ((A_impl_polar_k_RowPolar_c1).shape 27) kX kO))))))) (fun (list7 : (List Int)) => kX ([.u, .u, .u, .u, .u, .u, .u, .val (.sl I) (.o .i) list7] ++ List.replicate 30 .u)) n0 set1 cell2 list7 y8 := by kernel_rfl
theorem impl_polar_k_RowPolar_c1_iter3 (N : Nat) (kX : St → Option ((List Int) × Unit)) (kO : Nat → St → Option ((List Int) × Unit)) : ∀ (n : Nat) (n0 : Int) (set1 : (List Int)) (cell2 : ((List (List Bool)) × Unit)) (list7 : (List Int)) (y8 : Int), impl_polar_k_RowPolar_c1_R3 (codeAt Try.f74 [1, 1, 0, 1, 0, 0]) N n (exK (finish (A_impl_polar_k_RowPolar_c1) S_impl_polar_k_RowPolar_c1 Try.f74.results.toList) 0 ((A_impl_polar_k_RowPolar_c1).shape 27) kX kO) n0 set1 cell2 list7 y8 = impl_polar_k_RowPolar_c1_l3 N (fun (list7 : (List Int)) => kX ([.u, .u, .u, .u, .u, .u, .u, .val (.sl I) (.o .i) list7] ++ List.replicate 30 .u)) n n0 set1 cell2 list7 y8
  | 0, _, _, _, _, _ => rfl
  | m + 1, n0, set1, cell2, list7, y8 => by
    have hrec : impl_polar_k_RowPolar_c1_R3 (codeAt Try.f74 [1, 1, 0, 1, 0, 0]) N m (exK (finish (A_impl_polar_k_RowPolar_c1) S_impl_polar_k_RowPolar_c1 Try.f74.results.toList) 0 ((A_impl_polar_k_RowPolar_c1).shape 27) kX kO) = (impl_polar_k_RowPolar_c1_l3 N (fun (list7 : (List Int)) => kX ([.u, .u, .u, .u, .u, .u, .u, .val (.sl I) (.o .i) list7] ++ List.replicate 30 .u)) m) := (funext fun n0 => (funext fun set1 => (funext fun cell2 => (funext fun list7 => (funext fun y8 => impl_polar_k_RowPolar_c1_iter3 N kX kO m n0 set1 cell2 list7 y8)))))
    refine (impl_polar_k_RowPolar_c1_step3 N m kX kO n0 set1 cell2 list7 y8).trans ?_
    rw [(funext fun n0 => (funext fun set1 => (funext fun cell2 => (funext fun list7 => (funext fun y8 => (funext fun all9 => (funext fun t18 => (funext fun t19 => (funext fun t20 => impl_polar_k_RowPolar_c1_in7 N m kX kO (impl_polar_k_RowPolar_c1_l3 N (fun (list7 : (List Int)) => kX ([.u, .u, .u, .u, .u, .u, .u, .val (.sl I) (.o .i) list7] ++ List.replicate 30 .u)) m) hrec n0 set1 cell2 list7 y8 all9 t18 t19 t20)))))))))]
    rfl
theorem impl_polar_k_RowPolar_c1_after3 (N : Nat) (list7 : (List Int)) : (fun st' => run (A_impl_polar_k_RowPolar_c1) N (codeAt Try.f74 [1, 1, 1]) st' (finish (A_impl_polar_k_RowPolar_c1) S_impl_polar_k_RowPolar_c1 Try.f74.results.toList)) ([.u, .u, .u, .u, .u, .u, .u, .val (.sl I) (.o .i) list7] ++ List.replicate 30 .u) = impl_polar_k_RowPolar_c1_a3 list7 := by kernel_rfl
theorem impl_polar_k_RowPolar_c1_in3 (N : Nat) (n0 : Int) (set1 : (List Int)) (cell2 : ((List (List Bool)) × Unit)) (list7 : (List Int)) (y8 : Int) : impl_polar_k_RowPolar_c1_R3 (codeAt Try.f74 [1, 1, 0, 1, 0, 0]) N N (blockK 0 (seqK ((A_impl_polar_k_RowPolar_c1).shape 27) (run (A_impl_polar_k_RowPolar_c1) N (codeAt Try.f74 [1, 1, 1])) (finish (A_impl_polar_k_RowPolar_c1) S_impl_polar_k_RowPolar_c1 Try.f74.results.toList))) n0 set1 cell2 list7 y8 = impl_polar_k_RowPolar_c1_F3 N n0 set1 cell2 list7 y8 :=
  have h : (fun (list7 : (List Int)) => (fun st' => run (A_impl_polar_k_RowPolar_c1) N (codeAt Try.f74 [1, 1, 1]) st' (finish (A_impl_polar_k_RowPolar_c1) S_impl_polar_k_RowPolar_c1 Try.f74.results.toList)) ([.u, .u, .u, .u, .u, .u, .u, .val (.sl I) (.o .i) list7] ++ List.replicate 30 .u)) = (impl_polar_k_RowPolar_c1_a3) := (funext fun list7 => impl_polar_k_RowPolar_c1_after3 N list7)
  have e : impl_polar_k_RowPolar_c1_R3 (codeAt Try.f74 [1, 1, 0, 1, 0, 0]) N N (blockK 0 (seqK ((A_impl_polar_k_RowPolar_c1).shape 27) (run (A_impl_polar_k_RowPolar_c1) N (codeAt Try.f74 [1, 1, 1])) (finish (A_impl_polar_k_RowPolar_c1) S_impl_polar_k_RowPolar_c1 Try.f74.results.toList))) n0 set1 cell2 list7 y8 = impl_polar_k_RowPolar_c1_R3 (codeAt Try.f74 [1, 1, 0, 1, 0, 0]) N N (exK (finish (A_impl_polar_k_RowPolar_c1) S_impl_polar_k_RowPolar_c1 Try.f74.results.toList) 0 ((A_impl_polar_k_RowPolar_c1).shape 27) (fun st' => run (A_impl_polar_k_RowPolar_c1) N (codeAt Try.f74 [1, 1, 1]) st' (finish (A_impl_polar_k_RowPolar_c1) S_impl_polar_k_RowPolar_c1 Try.f74.results.toList)) (fun j st => (blockK 0 (seqK ((A_impl_polar_k_RowPolar_c1).shape 27) (run (A_impl_polar_k_RowPolar_c1) N (codeAt Try.f74 [1, 1, 1])) (finish (A_impl_polar_k_RowPolar_c1) S_impl_polar_k_RowPolar_c1 Try.f74.results.toList))) (.exit j) st)) n0 set1 cell2 list7 y8 := iter_ex (fun st => by kernel_rfl) (fun st => by kernel_rfl)
  (e.trans (impl_polar_k_RowPolar_c1_iter3 N (fun st' => run (A_impl_polar_k_RowPolar_c1) N (codeAt Try.f74 [1, 1, 1]) st' (finish (A_impl_polar_k_RowPolar_c1) S_impl_polar_k_RowPolar_c1 Try.f74.results.toList)) (fun j st => (blockK 0 (seqK ((A_impl_polar_k_RowPolar_c1).shape 27) (run (A_impl_polar_k_RowPolar_c1) N (codeAt Try.f74 [1, 1, 1])) (finish (A_impl_polar_k_RowPolar_c1) S_impl_polar_k_RowPolar_c1 Try.f74.results.toList))) (.exit j) st) N n0 set1 cell2 list7 y8)).trans (congrArg (fun k => impl_polar_k_RowPolar_c1_l3 N k N n0 set1 cell2 list7 y8) h)
theorem run0_impl_polar_k_RowPolar_c1 (N : Nat) (x : (S_impl_polar_k_RowPolar_c1).a.den) : runF (A_impl_polar_k_RowPolar_c1) N Try.f74 S_impl_polar_k_RowPolar_c1 x = (impl_polar_k_RowPolar_c1_s (impl_polar_k_RowPolar_c1_R3 (codeAt Try.f74 [1, 1, 0, 1, 0, 0]) N N (blockK 0 (seqK ((A_impl_polar_k_RowPolar_c1).shape 27) (run (A_impl_polar_k_RowPolar_c1) N (codeAt Try.f74 [1, 1, 1])) (finish (A_impl_polar_k_RowPolar_c1) S_impl_polar_k_RowPolar_c1 Try.f74.results.toList)))) x.1 x.2.1 x.2.2.1) := by kernel_rfl
theorem run_impl_polar_k_RowPolar_c1 (N : Nat) (x : (S_impl_polar_k_RowPolar_c1).a.den) : runF (A_impl_polar_k_RowPolar_c1) N Try.f74 S_impl_polar_k_RowPolar_c1 x = impl_polar_k_RowPolar_c1 N x.1 x.2.1 x.2.2.1 := by
  refine (run0_impl_polar_k_RowPolar_c1 N x).trans ?_
  rw [(funext fun n0 => (funext fun set1 => (funext fun cell2 => (funext fun list7 => (funext fun y8 => impl_polar_k_RowPolar_c1_in3 N n0 set1 cell2 list7 y8)))))]
  rfl
theorem fn_impl_polar_k_RowPolar_c1 : FnOk Try.prog 74 := ⟨_, Try.func74, by kernel_rfl, by kernel_rfl⟩
theorem good_impl_polar_k_RowPolar_c1 : Gx.Good Try.prog 74 S_impl_polar_k_RowPolar_c1 := good_of_run Try.func74 (of_decide_eq_true (by kernel_rfl)) fun x r h => ⟨A_impl_polar_k_RowPolar_c1, big, mkCfg_ok tabOk, mkCfg_sigs (show SigsOk Try.prog [(76, S_impl_RowPolar_c1)] from ⟨⟨fn_impl_RowPolar_c1, good_impl_RowPolar_c1⟩, trivial⟩), (run_impl_polar_k_RowPolar_c1 big x).trans h⟩

/-! impl_RowPolar -/
def impl_RowPolar_s (cells_0 : (List (List Bool))) (rows_1 : (List Int)) : Option (((List Int) × (Bool × Unit)) × Unit) :=
  (impl_IsContext big cells_0).bind fun rq1 =>
  cond (!rq1.1)
  (some (([], false, ()), (())))
  ((impl_isSetOf (cells_0.length : Int) rows_1).bind fun rq2 =>
  cond (!rq2.1)
  (some (([], false, ()), (())))
  ((impl_columnsOf cells_0).bind fun rq3 =>
  (impl_polar_k_RowPolar_c1 big rq3.1 rows_1 (cells_0, ())).bind fun rq4 =>
  some ((rq4.1, true, ()), (()))))
def impl_RowPolar (cells_0 : (List (List Bool))) (rows_1 : (List Int)) : Option (((List Int) × (Bool × Unit)) × Unit) := impl_RowPolar_s cells_0 rows_1
def S_impl_RowPolar : Sig := { a := (.pair (.sl (.sl .bool)) (.pair (.sl I) .unit)), md := [0, 0], mf := [], m := .unit, r := (.tup (.pair (.sl I) (.pair .bool .unit))), rf := (.p (.o .i) .i), f := fun x => impl_RowPolar x.1 x.2.1 }
def A_impl_RowPolar : Cfg := mkCfg tab [(72, S_impl_IsContext), (73, S_impl_isSetOf), (75, S_impl_columnsOf), (74, S_impl_polar_k_RowPolar_c1)] [(7, [.drop, .as (.sl I) .i, .as (.ptr (.sl (.sl .bool))) .i])]
theorem run_impl_RowPolar (N : Nat) (x : (S_impl_RowPolar).a.den) : runF (A_impl_RowPolar) N Try.f33 S_impl_RowPolar x = impl_RowPolar x.1 x.2.1 := by kernel_rfl
theorem fn_impl_RowPolar : FnOk Try.prog 33 := ⟨_, Try.func33, by kernel_rfl, by kernel_rfl⟩
theorem good_impl_RowPolar : Gx.Good Try.prog 33 S_impl_RowPolar := good_of_run Try.func33 (of_decide_eq_true (by kernel_rfl)) fun x r h => ⟨A_impl_RowPolar, big, mkCfg_ok tabOk, mkCfg_sigs (show SigsOk Try.prog [(72, S_impl_IsContext), (73, S_impl_isSetOf), (75, S_impl_columnsOf), (74, S_impl_polar_k_RowPolar_c1)] from ⟨⟨fn_impl_IsContext, good_impl_IsContext⟩, ⟨fn_impl_isSetOf, good_impl_isSetOf⟩, ⟨fn_impl_columnsOf, good_impl_columnsOf⟩, ⟨fn_impl_polar_k_RowPolar_c1, good_impl_polar_k_RowPolar_c1⟩, trivial⟩), (run_impl_RowPolar big x).trans h⟩

/-! laws_eqIntS -/
def laws_eqIntS_b4 (rec : (List Int) → (List Int) → Int → Option (Bool × Unit)) (k : Option (Bool × Unit)) (a0 : (List Int)) (b1 : (List Int)) (i5 : Int) : Option (Bool × Unit) :=
  cond (decide (i5 < (a0.length : Int)))
  ((atI a0 i5).bind fun xq1 =>
  (atI b1 i5).bind fun xq2 =>
  cond (decide (xq1 ≠ xq2))
  (some (false, (())))
  (rec a0 b1 (IntKind.i64.wrap (i5 + (1 : Int)))))
  (k)
def laws_eqIntS_a4 : Option (Bool × Unit) :=
  some (true, (()))
def laws_eqIntS_s (L4 : (List Int) → (List Int) → Int → Option (Bool × Unit)) (a_0 : (List Int)) (b_1 : (List Int)) : Option (Bool × Unit) :=
  cond (decide ((a_0.length : Int) ≠ (b_1.length : Int)))
  (some (false, (())))
  (L4 a_0 b_1 (0 : Int))
def laws_eqIntS_l4 (N : Nat) (k : Option (Bool × Unit)) : Nat → (List Int) → (List Int) → Int → Option (Bool × Unit)
  | 0, _, _, _ => none
  | m + 1, a0, b1, i5 => laws_eqIntS_b4 (laws_eqIntS_l4 N k m) k a0 b1 i5
def laws_eqIntS_F4 (N : Nat) (a0 : (List Int)) (b1 : (List Int)) (i5 : Int) : Option (Bool × Unit) := laws_eqIntS_l4 N (laws_eqIntS_a4) N a0 b1 i5
def laws_eqIntS (N : Nat) (a_0 : (List Int)) (b_1 : (List Int)) : Option (Bool × Unit) := laws_eqIntS_s (laws_eqIntS_F4 N) a_0 b_1
def S_laws_eqIntS : Sig := { a := (.pair (.sl I) (.pair (.sl I) .unit)), md := [0, 0], mf := [], m := .unit, r := .bool, rf := .i, f := fun x => laws_eqIntS big x.1 x.2.1 }
def A_laws_eqIntS : Cfg := mkCfg tab [] [(8, [.as (.sl I) .i, .as (.sl I) .i, .drop, .drop, .drop, .as I .i]), (17, [])]
def laws_eqIntS_R4 (cd : Code) (N n : Nat) (K : Ex → St → Option (Bool × Unit)) (a0 : (List Int)) (b1 : (List Int)) (i5 : Int) : Option (Bool × Unit) := iter ((A_laws_eqIntS).shape 8) (run (A_laws_eqIntS) N cd) n ([.val (.sl I) .i a0, .val (.sl I) .i b1, .u, .u, .u, .val I .i i5] ++ List.replicate 20 .u) K
theorem laws_eqIntS_step4 (N : Nat) (m : Nat) (kX : St → Option (Bool × Unit)) (kO : Nat → St → Option (Bool × Unit)) (a0 : (List Int)) (b1 : (List Int)) (i5 : Int) : laws_eqIntS_R4 (codeAt Try.f18 [1, 1, 0, 1, 0, 0]) N (m + 1) (exK (finish (A_laws_eqIntS) S_laws_eqIntS Try.f18.results.toList) 0 ((A_laws_eqIntS).shape 17) kX kO) a0 b1 i5 = laws_eqIntS_b4 (laws_eqIntS_R4 (codeAt Try.f18 [1, 1, 0, 1, 0, 0]) N m (exK (finish (A_laws_eqIntS) S_laws_eqIntS Try.f18.results.toList) 0 ((A_laws_eqIntS).shape 17) kX kO)) (kX ([] ++ List.replicate 26 .u)) a0 b1 i5 := by kernel_rfl
theorem laws_eqIntS_iter4 (N : Nat) (kX : St → Option (Bool × Unit)) (kO : Nat → St → Option (Bool × Unit)) : ∀ (n : Nat) (a0 : (List Int)) (b1 : (List Int)) (i5 : Int), laws_eqIntS_R4 (codeAt Try.f18 [1, 1, 0, 1, 0, 0]) N n (exK (finish (A_laws_eqIntS) S_laws_eqIntS Try.f18.results.toList) 0 ((A_laws_eqIntS).shape 17) kX kO) a0 b1 i5 = laws_eqIntS_l4 N (kX ([] ++ List.replicate 26 .u)) n a0 b1 i5
  | 0, _, _, _ => rfl
  | m + 1, a0, b1, i5 => by
    have hrec : laws_eqIntS_R4 (codeAt Try.f18 [1, 1, 0, 1, 0, 0]) N m (exK (finish (A_laws_eqIntS) S_laws_eqIntS Try.f18.results.toList) 0 ((A_laws_eqIntS).shape 17) kX kO) = (laws_eqIntS_l4 N (kX ([] ++ List.replicate 26 .u)) m) := (funext fun a0 => (funext fun b1 => (funext fun i5 => laws_eqIntS_iter4 N kX kO m a0 b1 i5)))
    refine (laws_eqIntS_step4 N m kX kO a0 b1 i5).trans ?_
    rw [hrec]
    rfl
theorem laws_eqIntS_after4 (N : Nat) : (fun st' => run (A_laws_eqIntS) N (codeAt Try.f18 [1, 1, 1]) st' (finish (A_laws_eqIntS) S_laws_eqIntS Try.f18.results.toList)) ([] ++ List.replicate 26 .u) = laws_eqIntS_a4 := by kernel_rfl
theorem laws_eqIntS_in4 (N : Nat) (a0 : (List Int)) (b1 : (List Int)) (i5 : Int) : laws_eqIntS_R4 (codeAt Try.f18 [1, 1, 0, 1, 0, 0]) N N (blockK 0 (seqK ((A_laws_eqIntS).shape 17) (run (A_laws_eqIntS) N (codeAt Try.f18 [1, 1, 1])) (finish (A_laws_eqIntS) S_laws_eqIntS Try.f18.results.toList))) a0 b1 i5 = laws_eqIntS_F4 N a0 b1 i5 :=
  have h : ((fun st' => run (A_laws_eqIntS) N (codeAt Try.f18 [1, 1, 1]) st' (finish (A_laws_eqIntS) S_laws_eqIntS Try.f18.results.toList)) ([] ++ List.replicate 26 .u)) = (laws_eqIntS_a4) := laws_eqIntS_after4 N
  have e : laws_eqIntS_R4 (codeAt Try.f18 [1, 1, 0, 1, 0, 0]) N N (blockK 0 (seqK ((A_laws_eqIntS).shape 17) (run (A_laws_eqIntS) N (codeAt Try.f18 [1, 1, 1])) (finish (A_laws_eqIntS) S_laws_eqIntS Try.f18.results.toList))) a0 b1 i5 = laws_eqIntS_R4 (codeAt Try.f18 [1, 1, 0, 1, 0, 0]) N N (exK (finish (A_laws_eqIntS) S_laws_eqIntS Try.f18.results.toList) 0 ((A_laws_eqIntS).shape 17) (fun st' => run (A_laws_eqIntS) N (codeAt Try.f18 [1, 1, 1]) st' (finish (A_laws_eqIntS) S_laws_eqIntS Try.f18.results.toList)) (fun j st => (blockK 0 (seqK ((A_laws_eqIntS).shape 17) (run (A_laws_eqIntS) N (codeAt Try.f18 [1, 1, 1])) (finish (A_laws_eqIntS) S_laws_eqIntS Try.f18.results.toList))) (.exit j) st)) a0 b1 i5 := iter_ex (fun st => by kernel_rfl) (fun st => by kernel_rfl)
  (e.trans (laws_eqIntS_iter4 N (fun st' => run (A_laws_eqIntS) N (codeAt Try.f18 [1, 1, 1]) st' (finish (A_laws_eqIntS) S_laws_eqIntS Try.f18.results.toList)) (fun j st => (blockK 0 (seqK ((A_laws_eqIntS).shape 17) (run (A_laws_eqIntS) N (codeAt Try.f18 [1, 1, 1])) (finish (A_laws_eqIntS) S_laws_eqIntS Try.f18.results.toList))) (.exit j) st) N a0 b1 i5)).trans (congrArg (fun k => laws_eqIntS_l4 N k N a0 b1 i5) h)
theorem run0_laws_eqIntS (N : Nat) (x : (S_laws_eqIntS).a.den) : runF (A_laws_eqIntS) N Try.f18 S_laws_eqIntS x = (laws_eqIntS_s (laws_eqIntS_R4 (codeAt Try.f18 [1, 1, 0, 1, 0, 0]) N N (blockK 0 (seqK ((A_laws_eqIntS).shape 17) (run (A_laws_eqIntS) N (codeAt Try.f18 [1, 1, 1])) (finish (A_laws_eqIntS) S_laws_eqIntS Try.f18.results.toList)))) x.1 x.2.1) := by kernel_rfl
theorem run_laws_eqIntS (N : Nat) (x : (S_laws_eqIntS).a.den) : runF (A_laws_eqIntS) N Try.f18 S_laws_eqIntS x = laws_eqIntS N x.1 x.2.1 := by
  refine (run0_laws_eqIntS N x).trans ?_
  rw [(funext fun a0 => (funext fun b1 => (funext fun i5 => laws_eqIntS_in4 N a0 b1 i5)))]
  rfl
theorem fn_laws_eqIntS : FnOk Try.prog 18 := ⟨_, Try.func18, by kernel_rfl, by kernel_rfl⟩
theorem good_laws_eqIntS : Gx.Good Try.prog 18 S_laws_eqIntS := good_of_run Try.func18 (of_decide_eq_true (by kernel_rfl)) fun x r h => ⟨A_laws_eqIntS, big, mkCfg_ok tabOk, mkCfg_sigs (show SigsOk Try.prog [] from trivial), (run_laws_eqIntS big x).trans h⟩

/-! laws_eqBoolS -/
def laws_eqBoolS_b4 (rec : (List Bool) → (List Bool) → Int → Option (Bool × Unit)) (k : Option (Bool × Unit)) (a0 : (List Bool)) (b1 : (List Bool)) (i5 : Int) : Option (Bool × Unit) :=
  cond (decide (i5 < (a0.length : Int)))
  ((atI a0 i5).bind fun xq1 =>
  (atI b1 i5).bind fun xq2 =>
  cond (xq1 != xq2)
  (some (false, (())))
  (rec a0 b1 (IntKind.i64.wrap (i5 + (1 : Int)))))
  (k)
def laws_eqBoolS_a4 : Option (Bool × Unit) :=
  some (true, (()))
def laws_eqBoolS_s (L4 : (List Bool) → (List Bool) → Int → Option (Bool × Unit)) (a_0 : (List Bool)) (b_1 : (List Bool)) : Option (Bool × Unit) :=
  cond (decide ((a_0.length : Int) ≠ (b_1.length : Int)))
  (some (false, (())))
  (L4 a_0 b_1 (0 : Int))
def laws_eqBoolS_l4 (N : Nat) (k : Option (Bool × Unit)) : Nat → (List Bool) → (List Bool) → Int → Option (Bool × Unit)
  | 0, _, _, _ => none
  | m + 1, a0, b1, i5 => laws_eqBoolS_b4 (laws_eqBoolS_l4 N k m) k a0 b1 i5
def laws_eqBoolS_F4 (N : Nat) (a0 : (List Bool)) (b1 : (List Bool)) (i5 : Int) : Option (Bool × Unit) := laws_eqBoolS_l4 N (laws_eqBoolS_a4) N a0 b1 i5
def laws_eqBoolS (N : Nat) (a_0 : (List Bool)) (b_1 : (List Bool)) : Option (Bool × Unit) := laws_eqBoolS_s (laws_eqBoolS_F4 N) a_0 b_1
def S_laws_eqBoolS : Sig := { a := (.pair (.sl .bool) (.pair (.sl .bool) .unit)), md := [0, 0], mf := [], m := .unit, r := .bool, rf := .i, f := fun x => laws_eqBoolS big x.1 x.2.1 }
def A_laws_eqBoolS : Cfg := mkCfg tab [] [(8, [.as (.sl .bool) .i, .as (.sl .bool) .i, .drop, .drop, .drop, .as I .i]), (17, [])]
def laws_eqBoolS_R4 (cd : Code) (N n : Nat) (K : Ex → St → Option (Bool × Unit)) (a0 : (List Bool)) (b1 : (List Bool)) (i5 : Int) : Option (Bool × Unit) := iter ((A_laws_eqBoolS).shape 8) (run (A_laws_eqBoolS) N cd) n ([.val (.sl .bool) .i a0, .val (.sl .bool) .i b1, .u, .u, .u, .val I .i i5] ++ List.replicate 20 .u) K
theorem laws_eqBoolS_step4 (N : Nat) (m : Nat) (kX : St → Option (Bool × Unit)) (kO : Nat → St → Option (Bool × Unit)) (a0 : (List Bool)) (b1 : (List Bool)) (i5 : Int) : laws_eqBoolS_R4 (codeAt Try.f77 [1, 1, 0, 1, 0, 0]) N (m + 1) (exK (finish (A_laws_eqBoolS) S_laws_eqBoolS Try.f77.results.toList) 0 ((A_laws_eqBoolS).shape 17) kX kO) a0 b1 i5 = laws_eqBoolS_b4 (laws_eqBoolS_R4 (codeAt Try.f77 [1, 1, 0, 1, 0, 0]) N m (exK (finish (A_laws_eqBoolS) S_laws_eqBoolS Try.f77.results.toList) 0 ((A_laws_eqBoolS).shape 17) kX kO)) (kX ([] ++ List.replicate 26 .u)) a0 b1 i5 := by kernel_rfl
theorem laws_eqBoolS_iter4 (N : Nat) (kX : St → Option (Bool × Unit)) (kO : Nat → St → Option (Bool × Unit)) : ∀ (n : Nat) (a0 : (List Bool)) (b1 : (List Bool)) (i5 : Int), laws_eqBoolS_R4 (codeAt Try.f77 [1, 1, 0, 1, 0, 0]) N n (exK (finish (A_laws_eqBoolS) S_laws_eqBoolS Try.f77.results.toList) 0 ((A_laws_eqBoolS).shape 17) kX kO) a0 b1 i5 = laws_eqBoolS_l4 N (kX ([] ++ List.replicate 26 .u)) n a0 b1 i5
  | 0, _, _, _ => rfl
  | m + 1, a0, b1, i5 => by
    have hrec : laws_eqBoolS_R4 (codeAt Try.f77 [1, 1, 0, 1, 0, 0]) N m (exK (finish (A_laws_eqBoolS) S_laws_eqBoolS Try.f77.results.toList) 0 ((A_laws_eqBoolS).shape 17) kX kO) = (laws_eqBoolS_l4 N (kX ([] ++ List.replicate 26 .u)) m) := (funext fun a0 => (funext fun b1 => (funext fun i5 => laws_eqBoolS_iter4 N kX kO m a0 b1 i5)))
    refine (laws_eqBoolS_step4 N m kX kO a0 b1 i5).trans ?_
    rw [hrec]
    rfl
theorem laws_eqBoolS_after4 (N : Nat) : (fun st' => run (A_laws_eqBoolS) N (codeAt Try.f77 [1, 1, 1]) st' (finish (A_laws_eqBoolS) S_laws_eqBoolS Try.f77.results.toList)) ([] ++ List.replicate 26 .u) = laws_eqBoolS_a4 := by kernel_rfl
theorem laws_eqBoolS_in4 (N : Nat) (a0 : (List Bool)) (b1 : (List Bool)) (i5 : Int) : laws_eqBoolS_R4 (codeAt Try.f77 [1, 1, 0, 1, 0, 0]) N N (blockK 0 (seqK ((A_laws_eqBoolS).shape 17) (run (A_laws_eqBoolS) N (codeAt Try.f77 [1, 1, 1])) (finish (A_laws_eqBoolS) S_laws_eqBoolS Try.f77.results.toList))) a0 b1 i5 = laws_eqBoolS_F4 N a0 b1 i5 :=
  have h : ((fun st' => run (A_laws_eqBoolS) N (codeAt Try.f77 [1, 1, 1]) st' (finish (A_laws_eqBoolS) S_laws_eqBoolS Try.f77.results.toList)) ([] ++ List.replicate 26 .u)) = (laws_eqBoolS_a4) := laws_eqBoolS_after4 N
  have e : laws_eqBoolS_R4 (codeAt Try.f77 [1, 1, 0, 1, 0, 0]) N N (blockK 0 (seqK ((A_laws_eqBoolS).shape 17) (run (A_laws_eqBoolS) N (codeAt Try.f77 [1, 1, 1])) (finish (A_laws_eqBoolS) S_laws_eqBoolS Try.f77.results.toList))) a0 b1 i5 = laws_eqBoolS_R4 (codeAt Try.f77 [1, 1, 0, 1, 0, 0]) N N (exK (finish (A_laws_eqBoolS) S_laws_eqBoolS Try.f77.results.toList) 0 ((A_laws_eqBoolS).shape 17) (fun st' => run (A_laws_eqBoolS) N (codeAt Try.f77 [1, 1, 1]) st' (finish (A_laws_eqBoolS) S_laws_eqBoolS Try.f77.results.toList)) (fun j st => (blockK 0 (seqK ((A_laws_eqBoolS).shape 17) (run (A_laws_eqBoolS) N (codeAt Try.f77 [1, 1, 1])) (finish (A_laws_eqBoolS) S_laws_eqBoolS Try.f77.results.toList))) (.exit j) st)) a0 b1 i5 := iter_ex (fun st => by kernel_rfl) (fun st => by kernel_rfl)
  (e.trans (laws_eqBoolS_iter4 N (fun st' => run (A_laws_eqBoolS) N (codeAt Try.f77 [1, 1, 1]) st' (finish (A_laws_eqBoolS) S_laws_eqBoolS Try.f77.results.toList)) (fun j st => (blockK 0 (seqK ((A_laws_eqBoolS).shape 17) (run (A_laws_eqBoolS) N (codeAt Try.f77 [1, 1, 1])) (finish (A_laws_eqBoolS) S_laws_eqBoolS Try.f77.results.toList))) (.exit j) st) N a0 b1 i5)).trans (congrArg (fun k => laws_eqBoolS_l4 N k N a0 b1 i5) h)
theorem run0_laws_eqBoolS (N : Nat) (x : (S_laws_eqBoolS).a.den) : runF (A_laws_eqBoolS) N Try.f77 S_laws_eqBoolS x = (laws_eqBoolS_s (laws_eqBoolS_R4 (codeAt Try.f77 [1, 1, 0, 1, 0, 0]) N N (blockK 0 (seqK ((A_laws_eqBoolS).shape 17) (run (A_laws_eqBoolS) N (codeAt Try.f77 [1, 1, 1])) (finish (A_laws_eqBoolS) S_laws_eqBoolS Try.f77.results.toList)))) x.1 x.2.1) := by kernel_rfl
theorem run_laws_eqBoolS (N : Nat) (x : (S_laws_eqBoolS).a.den) : runF (A_laws_eqBoolS) N Try.f77 S_laws_eqBoolS x = laws_eqBoolS N x.1 x.2.1 := by
  refine (run0_laws_eqBoolS N x).trans ?_
  rw [(funext fun a0 => (funext fun b1 => (funext fun i5 => laws_eqBoolS_in4 N a0 b1 i5)))]
  rfl
theorem fn_laws_eqBoolS : FnOk Try.prog 77 := ⟨_, Try.func77, by kernel_rfl, by kernel_rfl⟩
theorem good_laws_eqBoolS : Gx.Good Try.prog 77 S_laws_eqBoolS := good_of_run Try.func77 (of_decide_eq_true (by kernel_rfl)) fun x r h => ⟨A_laws_eqBoolS, big, mkCfg_ok tabOk, mkCfg_sigs (show SigsOk Try.prog [] from trivial), (run_laws_eqBoolS big x).trans h⟩

/-! laws_eqBoolSS -/
def laws_eqBoolSS_b4 (rec : (List (List Bool)) → (List (List Bool)) → Int → Option (Bool × Unit)) (k : Option (Bool × Unit)) (a0 : (List (List Bool))) (b1 : (List (List Bool))) (i5 : Int) : Option (Bool × Unit) :=
  cond (decide (i5 < (a0.length : Int)))
  ((atI a0 i5).bind fun xq1 =>
  (atI b1 i5).bind fun xq2 =>
  (laws_eqBoolS big xq1 xq2).bind fun rq3 =>
  cond (!rq3.1)
  (some (false, (())))
  (rec a0 b1 (IntKind.i64.wrap (i5 + (1 : Int)))))
  (k)
def laws_eqBoolSS_a4 : Option (Bool × Unit) :=
  some (true, (()))
def laws_eqBoolSS_s (L4 : (List (List Bool)) → (List (List Bool)) → Int → Option (Bool × Unit)) (a_0 : (List (List Bool))) (b_1 : (List (List Bool))) : Option (Bool × Unit) :=
  cond (decide ((a_0.length : Int) ≠ (b_1.length : Int)))
  (some (false, (())))
  (L4 a_0 b_1 (0 : Int))
def laws_eqBoolSS_l4 (N : Nat) (k : Option (Bool × Unit)) : Nat → (List (List Bool)) → (List (List Bool)) → Int → Option (Bool × Unit)
  | 0, _, _, _ => none
  | m + 1, a0, b1, i5 => laws_eqBoolSS_b4 (laws_eqBoolSS_l4 N k m) k a0 b1 i5
def laws_eqBoolSS_F4 (N : Nat) (a0 : (List (List Bool))) (b1 : (List (List Bool))) (i5 : Int) : Option (Bool × Unit) := laws_eqBoolSS_l4 N (laws_eqBoolSS_a4) N a0 b1 i5
def laws_eqBoolSS (N : Nat) (a_0 : (List (List Bool))) (b_1 : (List (List Bool))) : Option (Bool × Unit) := laws_eqBoolSS_s (laws_eqBoolSS_F4 N) a_0 b_1
def S_laws_eqBoolSS : Sig := { a := (.pair (.sl (.sl .bool)) (.pair (.sl (.sl .bool)) .unit)), md := [0, 0], mf := [], m := .unit, r := .bool, rf := .i, f := fun x => laws_eqBoolSS big x.1 x.2.1 }
def A_laws_eqBoolSS : Cfg := mkCfg tab [(77, S_laws_eqBoolS)] [(8, [.as (.sl (.sl .bool)) .i, .as (.sl (.sl .bool)) .i, .drop, .drop, .drop, .as I .i]), (17, [])]
def laws_eqBoolSS_R4 (cd : Code) (N n : Nat) (K : Ex → St → Option (Bool × Unit)) (a0 : (List (List Bool))) (b1 : (List (List Bool))) (i5 : Int) : Option (Bool × Unit) := iter ((A_laws_eqBoolSS).shape 8) (run (A_laws_eqBoolSS) N cd) n ([.val (.sl (.sl .bool)) .i a0, .val (.sl (.sl .bool)) .i b1, .u, .u, .u, .val I .i i5] ++ List.replicate 21 .u) K
theorem laws_eqBoolSS_step4 (N : Nat) (m : Nat) (kX : St → Option (Bool × Unit)) (kO : Nat → St → Option (Bool × Unit)) (a0 : (List (List Bool))) (b1 : (List (List Bool))) (i5 : Int) : laws_eqBoolSS_R4 (codeAt Try.f34 [1, 1, 0, 1, 0, 0]) N (m + 1) (exK (finish (A_laws_eqBoolSS) S_laws_eqBoolSS Try.f34.results.toList) 0 ((A_laws_eqBoolSS).shape 17) kX kO) a0 b1 i5 = laws_eqBoolSS_b4 (laws_eqBoolSS_R4 (codeAt Try.f34 [1, 1, 0, 1, 0, 0]) N m (exK (finish (A_laws_eqBoolSS) S_laws_eqBoolSS Try.f34.results.toList) 0 ((A_laws_eqBoolSS).shape 17) kX kO)) (kX ([] ++ List.replicate 27 .u)) a0 b1 i5 := by kernel_rfl
theorem laws_eqBoolSS_iter4 (N : Nat) (kX : St → Option (Bool × Unit)) (kO : Nat → St → Option (Bool × Unit)) : ∀ (n : Nat) (a0 : (List (List Bool))) (b1 : (List (List Bool))) (i5 : Int), laws_eqBoolSS_R4 (codeAt Try.f34 [1, 1, 0, 1, 0, 0]) N n (exK (finish (A_laws_eqBoolSS) S_laws_eqBoolSS Try.f34.results.toList) 0 ((A_laws_eqBoolSS).shape 17) kX kO) a0 b1 i5 = laws_eqBoolSS_l4 N (kX ([] ++ List.replicate 27 .u)) n a0 b1 i5
  | 0, _, _, _ => rfl
  | m + 1, a0, b1, i5 => by
    have hrec : laws_eqBoolSS_R4 (codeAt Try.f34 [1, 1, 0, 1, 0, 0]) N m (exK (finish (A_laws_eqBoolSS) S_laws_eqBoolSS Try.f34.results.toList) 0 ((A_laws_eqBoolSS).shape 17) kX kO) = (laws_eqBoolSS_l4 N (kX ([] ++ List.replicate 27 .u)) m) := (funext fun a0 => (funext fun b1 => (funext fun i5 => laws_eqBoolSS_iter4 N kX kO m a0 b1 i5)))
    refine (laws_eqBoolSS_step4 N m kX kO a0 b1 i5).trans ?_
    rw [hrec]
    rfl
theorem laws_eqBoolSS_after4 (N : Nat) : (fun st' => run (A_laws_eqBoolSS) N (codeAt Try.f34 [1, 1, 1]) st' (finish (A_laws_eqBoolSS) S_laws_eqBoolSS Try.f34.results.toList)) ([] ++ List.replicate 27 .u) = laws_eqBoolSS_a4 := by kernel_rfl
theorem laws_eqBoolSS_in4 (N : Nat) (a0 : (List (List Bool))) (b1 : (List (List Bool))) (i5 : Int) : laws_eqBoolSS_R4 (codeAt Try.f34 [1, 1, 0, 1, 0, 0]) N N (blockK 0 (seqK ((A_laws_eqBoolSS).shape 17) (run (A_laws_eqBoolSS) N (codeAt Try.f34 [1, 1, 1])) (finish (A_laws_eqBoolSS) S_laws_eqBoolSS Try.f34.results.toList))) a0 b1 i5 = laws_eqBoolSS_F4 N a0 b1 i5 :=
  have h : ((fun st' => run (A_laws_eqBoolSS) N (codeAt Try.f34 [1, 1, 1]) st' (finish (A_laws_eqBoolSS) S_laws_eqBoolSS Try.f34.results.toList)) ([] ++ List.replicate 27 .u)) = (laws_eqBoolSS_a4) := laws_eqBoolSS_after4 N
  have e : laws_eqBoolSS_R4 (codeAt Try.f34 [1, 1, 0, 1, 0, 0]) N N (blockK 0 (seqK ((A_laws_eqBoolSS).shape 17) (run (A_laws_eqBoolSS) N (codeAt Try.f34 [1, 1, 1])) (finish (A_laws_eqBoolSS) S_laws_eqBoolSS Try.f34.results.toList))) a0 b1 i5 = laws_eqBoolSS_R4 (codeAt Try.f34 [1, 1, 0, 1, 0, 0]) N N (exK (finish (A_laws_eqBoolSS) S_laws_eqBoolSS Try.f34.results.toList) 0 ((A_laws_eqBoolSS).shape 17) (fun st' => run (A_laws_eqBoolSS) N (codeAt Try.f34 [1, 1, 1]) st' (finish (A_laws_eqBoolSS) S_laws_eqBoolSS Try.f34.results.toList)) (fun j st => (blockK 0 (seqK ((A_laws_eqBoolSS).shape 17) (run (A_laws_eqBoolSS) N (codeAt Try.f34 [1, 1, 1])) (finish (A_laws_eqBoolSS) S_laws_eqBoolSS Try.f34.results.toList))) (.exit j) st)) a0 b1 i5 := iter_ex (fun st => by kernel_rfl) (fun st => by kernel_rfl)
  (e.trans (laws_eqBoolSS_iter4 N (fun st' => run (A_laws_eqBoolSS) N (codeAt Try.f34 [1, 1, 1]) st' (finish (A_laws_eqBoolSS) S_laws_eqBoolSS Try.f34.results.toList)) (fun j st => (blockK 0 (seqK ((A_laws_eqBoolSS).shape 17) (run (A_laws_eqBoolSS) N (codeAt Try.f34 [1, 1, 1])) (finish (A_laws_eqBoolSS) S_laws_eqBoolSS Try.f34.results.toList))) (.exit j) st) N a0 b1 i5)).trans (congrArg (fun k => laws_eqBoolSS_l4 N k N a0 b1 i5) h)
theorem run0_laws_eqBoolSS (N : Nat) (x : (S_laws_eqBoolSS).a.den) : runF (A_laws_eqBoolSS) N Try.f34 S_laws_eqBoolSS x = (laws_eqBoolSS_s (laws_eqBoolSS_R4 (codeAt Try.f34 [1, 1, 0, 1, 0, 0]) N N (blockK 0 (seqK ((A_laws_eqBoolSS).shape 17) (run (A_laws_eqBoolSS) N (codeAt Try.f34 [1, 1, 1])) (finish (A_laws_eqBoolSS) S_laws_eqBoolSS Try.f34.results.toList)))) x.1 x.2.1) := by kernel_rfl
theorem run_laws_eqBoolSS (N : Nat) (x : (S_laws_eqBoolSS).a.den) : runF (A_laws_eqBoolSS) N Try.f34 S_laws_eqBoolSS x = laws_eqBoolSS N x.1 x.2.1 := by
  refine (run0_laws_eqBoolSS N x).trans ?_
  rw [(funext fun a0 => (funext fun b1 => (funext fun i5 => laws_eqBoolSS_in4 N a0 b1 i5)))]
  rfl
theorem fn_laws_eqBoolSS : FnOk Try.prog 34 := ⟨_, Try.func34, by kernel_rfl, by kernel_rfl⟩
theorem good_laws_eqBoolSS : Gx.Good Try.prog 34 S_laws_eqBoolSS := good_of_run Try.func34 (of_decide_eq_true (by kernel_rfl)) fun x r h => ⟨A_laws_eqBoolSS, big, mkCfg_ok tabOk, mkCfg_sigs (show SigsOk Try.prog [(77, S_laws_eqBoolS)] from ⟨⟨fn_laws_eqBoolS, good_laws_eqBoolS⟩, trivial⟩), (run_laws_eqBoolSS big x).trans h⟩

/-! laws_markBoolS -/
def laws_markBoolS_b2 (rec : (List Bool) → Int → Int → Option (Int × ((List Bool) × Unit))) (k : (List Bool) → Int → Option (Int × ((List Bool) × Unit))) (a0 : (List Bool)) (k1 : Int) (i5 : Int) : Option (Int × ((List Bool) × Unit)) :=
  cond (decide (i5 < (a0.length : Int)))
  ((remI k1 (3 : Int)).bind fun xq1 =>
  (atI a0 i5).bind fun _ =>
  (a0[i5.toNat]?).bind fun xq2 =>
  rec (a0.set i5.toNat (decide (xq1 = (0 : Int)))) (IntKind.i64.wrap (k1 + (1 : Int))) (IntKind.i64.wrap (i5 + (1 : Int))))
  (k a0 k1)
def laws_markBoolS_a2 (a0 : (List Bool)) (k1 : Int) : Option (Int × ((List Bool) × Unit)) :=
  some (k1, (a0, ()))
def laws_markBoolS_s (L2 : (List Bool) → Int → Int → Option (Int × ((List Bool) × Unit))) (a_0 : (List Bool)) (k_1 : Int) : Option (Int × ((List Bool) × Unit)) :=
  L2 a_0 k_1 (0 : Int)
def laws_markBoolS_l2 (N : Nat) (k : (List Bool) → Int → Option (Int × ((List Bool) × Unit))) : Nat → (List Bool) → Int → Int → Option (Int × ((List Bool) × Unit))
  | 0, _, _, _ => none
  | m + 1, a0, k1, i5 => laws_markBoolS_b2 (laws_markBoolS_l2 N k m) k a0 k1 i5
def laws_markBoolS_F2 (N : Nat) (a0 : (List Bool)) (k1 : Int) (i5 : Int) : Option (Int × ((List Bool) × Unit)) := laws_markBoolS_l2 N (laws_markBoolS_a2) N a0 k1 i5
def laws_markBoolS (N : Nat) (a_0 : (List Bool)) (k_1 : Int) : Option (Int × ((List Bool) × Unit)) := laws_markBoolS_s (laws_markBoolS_F2 N) a_0 k_1
def S_laws_markBoolS : Sig := { a := (.pair (.sl .bool) (.pair I .unit)), md := [1, 0], mf := [(.o .i)], m := (.pair (.sl .bool) .unit), r := I, rf := .i, f := fun x => laws_markBoolS big x.1 x.2.1 }
def A_laws_markBoolS : Cfg := mkCfg tab [] [(4, [.as (.sl .bool) (.o .i), .as I .i, .drop, .drop, .drop, .as I .i]), (13, [.as (.sl .bool) (.o .i), .as I .i])]
def laws_markBoolS_R2 (cd : Code) (N n : Nat) (K : Ex → St → Option (Int × ((List Bool) × Unit))) (a0 : (List Bool)) (k1 : Int) (i5 : Int) : Option (Int × ((List Bool) × Unit)) := iter ((A_laws_markBoolS).shape 4) (run (A_laws_markBoolS) N cd) n ([.val (.sl .bool) (.o .i) a0, .val I .i k1, .u, .u, .u, .val I .i i5] ++ List.replicate 15 .u) K
theorem laws_markBoolS_step2 (N : Nat) (m : Nat) (kX : St → Option (Int × ((List Bool) × Unit))) (kO : Nat → St → Option (Int × ((List Bool) × Unit))) (a0 : (List Bool)) (k1 : Int) (i5 : Int) : laws_markBoolS_R2 (codeAt Try.f78 [1, 0, 1, 0, 0]) N (m + 1) (exK (finish (A_laws_markBoolS) S_laws_markBoolS Try.f78.results.toList) 0 ((A_laws_markBoolS).shape 13) kX kO) a0 k1 i5 = laws_markBoolS_b2 (laws_markBoolS_R2 (codeAt Try.f78 [1, 0, 1, 0, 0]) N m (exK (finish (A_laws_markBoolS) S_laws_markBoolS Try.f78.results.toList) 0 ((A_laws_markBoolS).shape 13) kX kO)) (fun (a0 : (List Bool)) (k1 : Int) => kX ([.val (.sl .bool) (.o .i) a0, .val I .i k1] ++ List.replicate 19 .u)) a0 k1 i5 := by kernel_rfl
theorem laws_markBoolS_iter2 (N : Nat) (kX : St → Option (Int × ((List Bool) × Unit))) (kO : Nat → St → Option (Int × ((List Bool) × Unit))) : ∀ (n : Nat) (a0 : (List Bool)) (k1 : Int) (i5 : Int), laws_markBoolS_R2 (codeAt Try.f78 [1, 0, 1, 0, 0]) N n (exK (finish (A_laws_markBoolS) S_laws_markBoolS Try.f78.results.toList) 0 ((A_laws_markBoolS).shape 13) kX kO) a0 k1 i5 = laws_markBoolS_l2 N (fun (a0 : (List Bool)) (k1 : Int) => kX ([.val (.sl .bool) (.o .i) a0, .val I .i k1] ++ List.replicate 19 .u)) n a0 k1 i5
  | 0, _, _, _ => rfl
  | m + 1, a0, k1, i5 => by
    have hrec : laws_markBoolS_R2 (codeAt Try.f78 [1, 0, 1, 0, 0]) N m (exK (finish (A_laws_markBoolS) S_laws_markBoolS Try.f78.results.toList) 0 ((A_laws_markBoolS).shape 13) kX kO) = (laws_markBoolS_l2 N (fun (a0 : (List Bool)) (k1 : Int) => kX ([.val (.sl .bool) (.o .i) a0, .val I .i k1] ++ List.replicate 19 .u)) m) := (funext fun a0 => (funext fun k1 => (funext fun i5 => laws_markBoolS_iter2 N kX kO m a0 k1 i5)))
    refine (laws_markBoolS_step2 N m kX kO a0 k1 i5).trans ?_
    rw [hrec]
    rfl
theorem laws_markBoolS_after2 (N : Nat) (a0 : (List Bool)) (k1 : Int) : (fun st' => run (A_laws_markBoolS) N (codeAt Try.f78 [1, 1]) st' (finish (A_laws_markBoolS) S_laws_markBoolS Try.f78.results.toList)) ([.val (.sl .bool) (.o .i) a0, .val I .i k1] ++ List.replicate 19 .u) = laws_markBoolS_a2 a0 k1 := by kernel_rfl
theorem laws_markBoolS_in2 (N : Nat) (a0 : (List Bool)) (k1 : Int) (i5 : Int) : laws_markBoolS_R2 (codeAt Try.f78 [1, 0, 1, 0, 0]) N N (blockK 0 (seqK ((A_laws_markBoolS).shape 13) (run (A_laws_markBoolS) N (codeAt Try.f78 [1, 1])) (finish (A_laws_markBoolS) S_laws_markBoolS Try.f78.results.toList))) a0 k1 i5 = laws_markBoolS_F2 N a0 k1 i5 :=
  have h : (fun (a0 : (List Bool)) (k1 : Int) => (fun st' => run (A_laws_markBoolS) N (codeAt Try.f78 [1, 1]) st' (finish (A_laws_markBoolS) S_laws_markBoolS Try.f78.results.toList)) ([.val (.sl .bool) (.o .i) a0, .val I .i k1] ++ List.replicate 19 .u)) = (laws_markBoolS_a2) := (funext fun a0 => (funext fun k1 => laws_markBoolS_after2 N a0 k1))
  have e : laws_markBoolS_R2 (codeAt Try.f78 [1, 0, 1, 0, 0]) N N (blockK 0 (seqK ((A_laws_markBoolS).shape 13) (run (A_laws_markBoolS) N (codeAt Try.f78 [1, 1])) (finish (A_laws_markBoolS) S_laws_markBoolS Try.f78.results.toList))) a0 k1 i5 = laws_markBoolS_R2 (codeAt Try.f78 [1, 0, 1, 0, 0]) N N (exK (finish (A_laws_markBoolS) S_laws_markBoolS Try.f78.results.toList) 0 ((A_laws_markBoolS).shape 13) (fun st' => run (A_laws_markBoolS) N (codeAt Try.f78 [1, 1]) st' (finish (A_laws_markBoolS) S_laws_markBoolS Try.f78.results.toList)) (fun j st => (blockK 0 (seqK ((A_laws_markBoolS).shape 13) (run (A_laws_markBoolS) N (codeAt Try.f78 [1, 1])) (finish (A_laws_markBoolS) S_laws_markBoolS Try.f78.results.toList))) (.exit j) st)) a0 k1 i5 := iter_ex (fun st => by kernel_rfl) (fun st => by kernel_rfl)
  (e.trans (laws_markBoolS_iter2 N (fun st' => run (A_laws_markBoolS) N (codeAt Try.f78 [1, 1]) st' (finish (A_laws_markBoolS) S_laws_markBoolS Try.f78.results.toList)) (fun j st => (blockK 0 (seqK ((A_laws_markBoolS).shape 13) (run (A_laws_markBoolS) N (codeAt Try.f78 [1, 1])) (finish (A_laws_markBoolS) S_laws_markBoolS Try.f78.results.toList))) (.exit j) st) N a0 k1 i5)).trans (congrArg (fun k => laws_markBoolS_l2 N k N a0 k1 i5) h)
theorem run0_laws_markBoolS (N : Nat) (x : (S_laws_markBoolS).a.den) : runF (A_laws_markBoolS) N Try.f78 S_laws_markBoolS x = (laws_markBoolS_s (laws_markBoolS_R2 (codeAt Try.f78 [1, 0, 1, 0, 0]) N N (blockK 0 (seqK ((A_laws_markBoolS).shape 13) (run (A_laws_markBoolS) N (codeAt Try.f78 [1, 1])) (finish (A_laws_markBoolS) S_laws_markBoolS Try.f78.results.toList)))) x.1 x.2.1) := by kernel_rfl
theorem run_laws_markBoolS (N : Nat) (x : (S_laws_markBoolS).a.den) : runF (A_laws_markBoolS) N Try.f78 S_laws_markBoolS x = laws_markBoolS N x.1 x.2.1 := by
  refine (run0_laws_markBoolS N x).trans ?_
  rw [(funext fun a0 => (funext fun k1 => (funext fun i5 => laws_markBoolS_in2 N a0 k1 i5)))]
  rfl
theorem fn_laws_markBoolS : FnOk Try.prog 78 := ⟨_, Try.func78, by kernel_rfl, by kernel_rfl⟩
theorem good_laws_markBoolS : Gx.Good Try.prog 78 S_laws_markBoolS := good_of_run Try.func78 (of_decide_eq_true (by kernel_rfl)) fun x r h => ⟨A_laws_markBoolS, big, mkCfg_ok tabOk, mkCfg_sigs (show SigsOk Try.prog [] from trivial), (run_laws_markBoolS big x).trans h⟩

/-! laws_markBoolSS -/
def laws_markBoolSS_b2 (rec : (List (List Bool)) → Int → Int → Option (Int × ((List (List Bool)) × Unit))) (k : (List (List Bool)) → Int → Option (Int × ((List (List Bool)) × Unit))) (a0 : (List (List Bool))) (k1 : Int) (i5 : Int) : Option (Int × ((List (List Bool)) × Unit)) :=
  cond (decide (i5 < (a0.length : Int)))
  ((atI a0 i5).bind fun _ =>
  (a0[i5.toNat]?).bind fun xq1 =>
  (a0[i5.toNat]?).bind fun xq2 =>
  (laws_markBoolS big xq2 k1).bind fun rq3 =>
  (a0[i5.toNat]?).bind fun xq4 =>
  (a0[i5.toNat]?).bind fun xq5 =>
  rec (a0.set i5.toNat rq3.2.1) rq3.1 (IntKind.i64.wrap (i5 + (1 : Int))))
  (k a0 k1)
def laws_markBoolSS_a2 (a0 : (List (List Bool))) (k1 : Int) : Option (Int × ((List (List Bool)) × Unit)) :=
  some (k1, (a0, ()))
def laws_markBoolSS_s (L2 : (List (List Bool)) → Int → Int → Option (Int × ((List (List Bool)) × Unit))) (a_0 : (List (List Bool))) (k_1 : Int) : Option (Int × ((List (List Bool)) × Unit)) :=
  L2 a_0 k_1 (0 : Int)
def laws_markBoolSS_l2 (N : Nat) (k : (List (List Bool)) → Int → Option (Int × ((List (List Bool)) × Unit))) : Nat → (List (List Bool)) → Int → Int → Option (Int × ((List (List Bool)) × Unit))
  | 0, _, _, _ => none
  | m + 1, a0, k1, i5 => laws_markBoolSS_b2 (laws_markBoolSS_l2 N k m) k a0 k1 i5
def laws_markBoolSS_F2 (N : Nat) (a0 : (List (List Bool))) (k1 : Int) (i5 : Int) : Option (Int × ((List (List Bool)) × Unit)) := laws_markBoolSS_l2 N (laws_markBoolSS_a2) N a0 k1 i5
def laws_markBoolSS (N : Nat) (a_0 : (List (List Bool))) (k_1 : Int) : Option (Int × ((List (List Bool)) × Unit)) := laws_markBoolSS_s (laws_markBoolSS_F2 N) a_0 k_1
def S_laws_markBoolSS : Sig := { a := (.pair (.sl (.sl .bool)) (.pair I .unit)), md := [1, 0], mf := [(.o (.o .i))], m := (.pair (.sl (.sl .bool)) .unit), r := I, rf := .i, f := fun x => laws_markBoolSS big x.1 x.2.1 }
def A_laws_markBoolSS : Cfg := mkCfg tab [(78, S_laws_markBoolS)] [(4, [.as (.sl (.sl .bool)) (.o (.o .i)), .as I .i, .drop, .drop, .drop, .as I .i]), (11, [.as (.sl (.sl .bool)) (.o (.o .i)), .as I .i])]
def laws_markBoolSS_R2 (cd : Code) (N n : Nat) (K : Ex → St → Option (Int × ((List (List Bool)) × Unit))) (a0 : (List (List Bool))) (k1 : Int) (i5 : Int) : Option (Int × ((List (List Bool)) × Unit)) := iter ((A_laws_markBoolSS).shape 4) (run (A_laws_markBoolSS) N cd) n ([.val (.sl (.sl .bool)) (.o (.o .i)) a0, .val I .i k1, .u, .u, .u, .val I .i i5] ++ List.replicate 13 .u) K
theorem laws_markBoolSS_step2 (N : Nat) (m : Nat) (kX : St → Option (Int × ((List (List Bool)) × Unit))) (kO : Nat → St → Option (Int × ((List (List Bool)) × Unit))) (a0 : (List (List Bool))) (k1 : Int) (i5 : Int) : laws_markBoolSS_R2 (codeAt Try.f35 [1, 0, 1, 0, 0]) N (m + 1) (exK (finish (A_laws_markBoolSS) S_laws_markBoolSS Try.f35.results.toList) 0 ((A_laws_markBoolSS).shape 11) kX kO) a0 k1 i5 = laws_markBoolSS_b2 (laws_markBoolSS_R2 (codeAt Try.f35 [1, 0, 1, 0, 0]) N m (exK (finish (A_laws_markBoolSS) S_laws_markBoolSS Try.f35.results.toList) 0 ((A_laws_markBoolSS).shape 11) kX kO)) (fun (a0 : (List (List Bool))) (k1 : Int) => kX ([.val (.sl (.sl .bool)) (.o (.o .i)) a0, .val I .i k1] ++ List.replicate 17 .u)) a0 k1 i5 := by kernel_rfl
theorem laws_markBoolSS_iter2 (N : Nat) (kX : St → Option (Int × ((List (List Bool)) × Unit))) (kO : Nat → St → Option (Int × ((List (List Bool)) × Unit))) : ∀ (n : Nat) (a0 : (List (List Bool))) (k1 : Int) (i5 : Int), laws_markBoolSS_R2 (codeAt Try.f35 [1, 0, 1, 0, 0]) N n (exK (finish (A_laws_markBoolSS) S_laws_markBoolSS Try.f35.results.toList) 0 ((A_laws_markBoolSS).shape 11) kX kO) a0 k1 i5 = laws_markBoolSS_l2 N (fun (a0 : (List (List Bool))) (k1 : Int) => kX ([.val (.sl (.sl .bool)) (.o (.o .i)) a0, .val I .i k1] ++ List.replicate 17 .u)) n a0 k1 i5
  | 0, _, _, _ => rfl
  | m + 1, a0, k1, i5 => by
    have hrec : laws_markBoolSS_R2 (codeAt Try.f35 [1, 0, 1, 0, 0]) N m (exK (finish (A_laws_markBoolSS) S_laws_markBoolSS Try.f35.results.toList) 0 ((A_laws_markBoolSS).shape 11) kX kO) = (laws_markBoolSS_l2 N (fun (a0 : (List (List Bool))) (k1 : Int) => kX ([.val (.sl (.sl .bool)) (.o (.o .i)) a0, .val I .i k1] ++ List.replicate 17 .u)) m) := (funext fun a0 => (funext fun k1 => (funext fun i5 => laws_markBoolSS_iter2 N kX kO m a0 k1 i5)))
    refine (laws_markBoolSS_step2 N m kX kO a0 k1 i5).trans ?_
    rw [hrec]
    rfl
theorem laws_markBoolSS_after2 (N : Nat) (a0 : (List (List Bool))) (k1 : Int) : (fun st' => run (A_laws_markBoolSS) N (codeAt Try.f35 [1, 1]) st' (finish (A_laws_markBoolSS) S_laws_markBoolSS Try.f35.results.toList)) ([.val (.sl (.sl .bool)) (.o (.o .i)) a0, .val I .i k1] ++ List.replicate 17 .u) = laws_markBoolSS_a2 a0 k1 := by kernel_rfl
theorem laws_markBoolSS_in2 (N : Nat) (a0 : (List (List Bool))) (k1 : Int) (i5 : Int) : laws_markBoolSS_R2 (codeAt Try.f35 [1, 0, 1, 0, 0]) N N (blockK 0 (seqK ((A_laws_markBoolSS).shape 11) (run (A_laws_markBoolSS) N (codeAt Try.f35 [1, 1])) (finish (A_laws_markBoolSS) S_laws_markBoolSS Try.f35.results.toList))) a0 k1 i5 = laws_markBoolSS_F2 N a0 k1 i5 :=
  have h : (fun (a0 : (List (List Bool))) (k1 : Int) => (fun st' => run (A_laws_markBoolSS) N (codeAt Try.f35 [1, 1]) st' (finish (A_laws_markBoolSS) S_laws_markBoolSS Try.f35.results.toList)) ([.val (.sl (.sl .bool)) (.o (.o .i)) a0, .val I .i k1] ++ List.replicate 17 .u)) = (laws_markBoolSS_a2) := (funext fun a0 => (funext fun k1 => laws_markBoolSS_after2 N a0 k1))
  have e : laws_markBoolSS_R2 (codeAt Try.f35 [1, 0, 1, 0, 0]) N N (blockK 0 (seqK ((A_laws_markBoolSS).shape 11) (run (A_laws_markBoolSS) N (codeAt Try.f35 [1, 1])) (finish (A_laws_markBoolSS) S_laws_markBoolSS Try.f35.results.toList))) a0 k1 i5 = laws_markBoolSS_R2 (codeAt Try.f35 [1, 0, 1, 0, 0]) N N (exK (finish (A_laws_markBoolSS) S_laws_markBoolSS Try.f35.results.toList) 0 ((A_laws_markBoolSS).shape 11) (fun st' => run (A_laws_markBoolSS) N (codeAt Try.f35 [1, 1]) st' (finish (A_laws_markBoolSS) S_laws_markBoolSS Try.f35.results.toList)) (fun j st => (blockK 0 (seqK ((A_laws_markBoolSS).shape 11) (run (A_laws_markBoolSS) N (codeAt Try.f35 [1, 1])) (finish (A_laws_markBoolSS) S_laws_markBoolSS Try.f35.results.toList))) (.exit j) st)) a0 k1 i5 := iter_ex (fun st => by kernel_rfl) (fun st => by kernel_rfl)
  (e.trans (laws_markBoolSS_iter2 N (fun st' => run (A_laws_markBoolSS) N (codeAt Try.f35 [1, 1]) st' (finish (A_laws_markBoolSS) S_laws_markBoolSS Try.f35.results.toList)) (fun j st => (blockK 0 (seqK ((A_laws_markBoolSS).shape 11) (run (A_laws_markBoolSS) N (codeAt Try.f35 [1, 1])) (finish (A_laws_markBoolSS) S_laws_markBoolSS Try.f35.results.toList))) (.exit j) st) N a0 k1 i5)).trans (congrArg (fun k => laws_markBoolSS_l2 N k N a0 k1 i5) h)
theorem run0_laws_markBoolSS (N : Nat) (x : (S_laws_markBoolSS).a.den) : runF (A_laws_markBoolSS) N Try.f35 S_laws_markBoolSS x = (laws_markBoolSS_s (laws_markBoolSS_R2 (codeAt Try.f35 [1, 0, 1, 0, 0]) N N (blockK 0 (seqK ((A_laws_markBoolSS).shape 11) (run (A_laws_markBoolSS) N (codeAt Try.f35 [1, 1])) (finish (A_laws_markBoolSS) S_laws_markBoolSS Try.f35.results.toList)))) x.1 x.2.1) := by kernel_rfl
theorem run_laws_markBoolSS (N : Nat) (x : (S_laws_markBoolSS).a.den) : runF (A_laws_markBoolSS) N Try.f35 S_laws_markBoolSS x = laws_markBoolSS N x.1 x.2.1 := by
  refine (run0_laws_markBoolSS N x).trans ?_
  rw [(funext fun a0 => (funext fun k1 => (funext fun i5 => laws_markBoolSS_in2 N a0 k1 i5)))]
  rfl
theorem fn_laws_markBoolSS : FnOk Try.prog 35 := ⟨_, Try.func35, by kernel_rfl, by kernel_rfl⟩
theorem good_laws_markBoolSS : Gx.Good Try.prog 35 S_laws_markBoolSS := good_of_run Try.func35 (of_decide_eq_true (by kernel_rfl)) fun x r h => ⟨A_laws_markBoolSS, big, mkCfg_ok tabOk, mkCfg_sigs (show SigsOk Try.prog [(78, S_laws_markBoolS)] from ⟨⟨fn_laws_markBoolS, good_laws_markBoolS⟩, trivial⟩), (run_laws_markBoolSS big x).trans h⟩

/-! laws_markIntS -/
def laws_markIntS_b2 (rec : (List Int) → Int → Int → Option (Int × ((List Int) × Unit))) (k : (List Int) → Int → Option (Int × ((List Int) × Unit))) (a0 : (List Int)) (k1 : Int) (i5 : Int) : Option (Int × ((List Int) × Unit)) :=
  cond (decide (i5 < (a0.length : Int)))
  ((atI a0 i5).bind fun _ =>
  (a0[i5.toNat]?).bind fun xq1 =>
  rec (a0.set i5.toNat k1) (IntKind.i64.wrap (k1 + (1 : Int))) (IntKind.i64.wrap (i5 + (1 : Int))))
  (k a0 k1)
def laws_markIntS_a2 (a0 : (List Int)) (k1 : Int) : Option (Int × ((List Int) × Unit)) :=
  some (k1, (a0, ()))
def laws_markIntS_s (L2 : (List Int) → Int → Int → Option (Int × ((List Int) × Unit))) (a_0 : (List Int)) (k_1 : Int) : Option (Int × ((List Int) × Unit)) :=
  L2 a_0 k_1 (0 : Int)
def laws_markIntS_l2 (N : Nat) (k : (List Int) → Int → Option (Int × ((List Int) × Unit))) : Nat → (List Int) → Int → Int → Option (Int × ((List Int) × Unit))
  | 0, _, _, _ => none
  | m + 1, a0, k1, i5 => laws_markIntS_b2 (laws_markIntS_l2 N k m) k a0 k1 i5
def laws_markIntS_F2 (N : Nat) (a0 : (List Int)) (k1 : Int) (i5 : Int) : Option (Int × ((List Int) × Unit)) := laws_markIntS_l2 N (laws_markIntS_a2) N a0 k1 i5
def laws_markIntS (N : Nat) (a_0 : (List Int)) (k_1 : Int) : Option (Int × ((List Int) × Unit)) := laws_markIntS_s (laws_markIntS_F2 N) a_0 k_1
def S_laws_markIntS : Sig := { a := (.pair (.sl I) (.pair I .unit)), md := [1, 0], mf := [(.o .i)], m := (.pair (.sl I) .unit), r := I, rf := .i, f := fun x => laws_markIntS big x.1 x.2.1 }
def A_laws_markIntS : Cfg := mkCfg tab [] [(4, [.as (.sl I) (.o .i), .as I .i, .drop, .drop, .drop, .as I .i]), (13, [.as (.sl I) (.o .i), .as I .i])]
def laws_markIntS_R2 (cd : Code) (N n : Nat) (K : Ex → St → Option (Int × ((List Int) × Unit))) (a0 : (List Int)) (k1 : Int) (i5 : Int) : Option (Int × ((List Int) × Unit)) := iter ((A_laws_markIntS).shape 4) (run (A_laws_markIntS) N cd) n ([.val (.sl I) (.o .i) a0, .val I .i k1, .u, .u, .u, .val I .i i5] ++ List.replicate 13 .u) K
theorem laws_markIntS_step2 (N : Nat) (m : Nat) (kX : St → Option (Int × ((List Int) × Unit))) (kO : Nat → St → Option (Int × ((List Int) × Unit))) (a0 : (List Int)) (k1 : Int) (i5 : Int) : laws_markIntS_R2 (codeAt Try.f27 [1, 0, 1, 0, 0]) N (m + 1) (exK (finish (A_laws_markIntS) S_laws_markIntS Try.f27.results.toList) 0 ((A_laws_markIntS).shape 13) kX kO) a0 k1 i5 = laws_markIntS_b2 (laws_markIntS_R2 (codeAt Try.f27 [1, 0, 1, 0, 0]) N m (exK (finish (A_laws_markIntS) S_laws_markIntS Try.f27.results.toList) 0 ((A_laws_markIntS).shape 13) kX kO)) (fun (a0 : (List Int)) (k1 : Int) => kX ([.val (.sl I) (.o .i) a0, .val I .i k1] ++ List.replicate 17 .u)) a0 k1 i5 := by kernel_rfl
theorem laws_markIntS_iter2 (N : Nat) (kX : St → Option (Int × ((List Int) × Unit))) (kO : Nat → St → Option (Int × ((List Int) × Unit))) : ∀ (n : Nat) (a0 : (List Int)) (k1 : Int) (i5 : Int), laws_markIntS_R2 (codeAt Try.f27 [1, 0, 1, 0, 0]) N n (exK (finish (A_laws_markIntS) S_laws_markIntS Try.f27.results.toList) 0 ((A_laws_markIntS).shape 13) kX kO) a0 k1 i5 = laws_markIntS_l2 N (fun (a0 : (List Int)) (k1 : Int) => kX ([.val (.sl I) (.o .i) a0, .val I .i k1] ++ List.replicate 17 .u)) n a0 k1 i5
  | 0, _, _, _ => rfl
  | m + 1, a0, k1, i5 => by
    have hrec : laws_markIntS_R2 (codeAt Try.f27 [1, 0, 1, 0, 0]) N m (exK (finish (A_laws_markIntS) S_laws_markIntS Try.f27.results.toList) 0 ((A_laws_markIntS).shape 13) kX kO) = (laws_markIntS_l2 N (fun (a0 : (List Int)) (k1 : Int) => kX ([.val (.sl I) (.o .i) a0, .val I .i k1] ++ List.replicate 17 .u)) m) := (funext fun a0 => (funext fun k1 => (funext fun i5 => laws_markIntS_iter2 N kX kO m a0 k1 i5)))
    refine (laws_markIntS_step2 N m kX kO a0 k1 i5).trans ?_
    rw [hrec]
    rfl
theorem laws_markIntS_after2 (N : Nat) (a0 : (List Int)) (k1 : Int) : (fun st' => run (A_laws_markIntS) N (codeAt Try.f27 [1, 1]) st' (finish (A_laws_markIntS) S_laws_markIntS Try.f27.results.toList)) ([.val (.sl I) (.o .i) a0, .val I .i k1] ++ List.replicate 17 .u) = laws_markIntS_a2 a0 k1 := by kernel_rfl
theorem laws_markIntS_in2 (N : Nat) (a0 : (List Int)) (k1 : Int) (i5 : Int) : laws_markIntS_R2 (codeAt Try.f27 [1, 0, 1, 0, 0]) N N (blockK 0 (seqK ((A_laws_markIntS).shape 13) (run (A_laws_markIntS) N (codeAt Try.f27 [1, 1])) (finish (A_laws_markIntS) S_laws_markIntS Try.f27.results.toList))) a0 k1 i5 = laws_markIntS_F2 N a0 k1 i5 :=
  have h : (fun (a0 : (List Int)) (k1 : Int) => (fun st' => run (A_laws_markIntS) N (codeAt Try.f27 [1, 1]) st' (finish (A_laws_markIntS) S_laws_markIntS Try.f27.results.toList)) ([.val (.sl I) (.o .i) a0, .val I .i k1] ++ List.replicate 17 .u)) = (laws_markIntS_a2) := (funext fun a0 => (funext fun k1 => laws_markIntS_after2 N a0 k1))
  have e : laws_markIntS_R2 (codeAt Try.f27 [1, 0, 1, 0, 0]) N N (blockK 0 (seqK ((A_laws_markIntS).shape 13) (run (A_laws_markIntS) N (codeAt Try.f27 [1, 1])) (finish (A_laws_markIntS) S_laws_markIntS Try.f27.results.toList))) a0 k1 i5 = laws_markIntS_R2 (codeAt Try.f27 [1, 0, 1, 0, 0]) N N (exK (finish (A_laws_markIntS) S_laws_markIntS Try.f27.results.toList) 0 ((A_laws_markIntS).shape 13) (fun st' => run (A_laws_markIntS) N (codeAt Try.f27 [1, 1]) st' (finish (A_laws_markIntS) S_laws_markIntS Try.f27.results.toList)) (fun j st => (blockK 0 (seqK ((A_laws_markIntS).shape 13) (run (A_laws_markIntS) N (codeAt Try.f27 [1, 1])) (finish (A_laws_markIntS) S_laws_markIntS Try.f27.results.toList))) (.exit j) st)) a0 k1 i5 := iter_ex (fun st => by kernel_rfl) (fun st => by kernel_rfl)
  (e.trans (laws_markIntS_iter2 N (fun st' => run (A_laws_markIntS) N (codeAt Try.f27 [1, 1]) st' (finish (A_laws_markIntS) S_laws_markIntS Try.f27.results.toList)) (fun j st => (blockK 0 (seqK ((A_laws_markIntS).shape 13) (run (A_laws_markIntS) N (codeAt Try.f27 [1, 1])) (finish (A_laws_markIntS) S_laws_markIntS Try.f27.results.toList))) (.exit j) st) N a0 k1 i5)).trans (congrArg (fun k => laws_markIntS_l2 N k N a0 k1 i5) h)
theorem run0_laws_markIntS (N : Nat) (x : (S_laws_markIntS).a.den) : runF (A_laws_markIntS) N Try.f27 S_laws_markIntS x = (laws_markIntS_s (laws_markIntS_R2 (codeAt Try.f27 [1, 0, 1, 0, 0]) N N (blockK 0 (seqK ((A_laws_markIntS).shape 13) (run (A_laws_markIntS) N (codeAt Try.f27 [1, 1])) (finish (A_laws_markIntS) S_laws_markIntS Try.f27.results.toList)))) x.1 x.2.1) := by kernel_rfl
theorem run_laws_markIntS (N : Nat) (x : (S_laws_markIntS).a.den) : runF (A_laws_markIntS) N Try.f27 S_laws_markIntS x = laws_markIntS N x.1 x.2.1 := by
  refine (run0_laws_markIntS N x).trans ?_
  rw [(funext fun a0 => (funext fun k1 => (funext fun i5 => laws_markIntS_in2 N a0 k1 i5)))]
  rfl
theorem fn_laws_markIntS : FnOk Try.prog 27 := ⟨_, Try.func27, by kernel_rfl, by kernel_rfl⟩
theorem good_laws_markIntS : Gx.Good Try.prog 27 S_laws_markIntS := good_of_run Try.func27 (of_decide_eq_true (by kernel_rfl)) fun x r h => ⟨A_laws_markIntS, big, mkCfg_ok tabOk, mkCfg_sigs (show SigsOk Try.prog [] from trivial), (run_laws_markIntS big x).trans h⟩

/-! laws_heldIntS -/
def laws_heldIntS_b2 (rec : (List Int) → Int → Int → Option (Int × Unit)) (k : Int → Option (Int × Unit)) (a0 : (List Int)) (k1 : Int) (i5 : Int) : Option (Int × Unit) :=
  cond (decide (i5 < (a0.length : Int)))
  ((atI a0 i5).bind fun xq1 =>
  cond (decide (xq1 ≠ k1))
  (some ((-1 : Int), (())))
  (rec a0 (IntKind.i64.wrap (k1 + (1 : Int))) (IntKind.i64.wrap (i5 + (1 : Int)))))
  (k k1)
def laws_heldIntS_a2 (k1 : Int) : Option (Int × Unit) :=
  some (k1, (()))
def laws_heldIntS_s (L2 : (List Int) → Int → Int → Option (Int × Unit)) (a_0 : (List Int)) (k_1 : Int) : Option (Int × Unit) :=
  L2 a_0 k_1 (0 : Int)
def laws_heldIntS_l2 (N : Nat) (k : Int → Option (Int × Unit)) : Nat → (List Int) → Int → Int → Option (Int × Unit)
  | 0, _, _, _ => none
  | m + 1, a0, k1, i5 => laws_heldIntS_b2 (laws_heldIntS_l2 N k m) k a0 k1 i5
def laws_heldIntS_F2 (N : Nat) (a0 : (List Int)) (k1 : Int) (i5 : Int) : Option (Int × Unit) := laws_heldIntS_l2 N (laws_heldIntS_a2) N a0 k1 i5
def laws_heldIntS (N : Nat) (a_0 : (List Int)) (k_1 : Int) : Option (Int × Unit) := laws_heldIntS_s (laws_heldIntS_F2 N) a_0 k_1
def S_laws_heldIntS : Sig := { a := (.pair (.sl I) (.pair I .unit)), md := [0, 0], mf := [], m := .unit, r := I, rf := .i, f := fun x => laws_heldIntS big x.1 x.2.1 }
def A_laws_heldIntS : Cfg := mkCfg tab [] [(4, [.as (.sl I) .i, .as I .i, .drop, .drop, .drop, .as I .i]), (15, [.drop, .as I .i])]
def laws_heldIntS_R2 (cd : Code) (N n : Nat) (K : Ex → St → Option (Int × Unit)) (a0 : (List Int)) (k1 : Int) (i5 : Int) : Option (Int × Unit) := iter ((A_laws_heldIntS).shape 4) (run (A_laws_heldIntS) N cd) n ([.val (.sl I) .i a0, .val I .i k1, .u, .u, .u, .val I .i i5] ++ List.replicate 15 .u) K
theorem laws_heldIntS_step2 (N : Nat) (m : Nat) (kX : St → Option (Int × Unit)) (kO : Nat → St → Option (Int × Unit)) (a0 : (List Int)) (k1 : Int) (i5 : Int) : laws_heldIntS_R2 (codeAt Try.f36 [1, 0, 1, 0, 0]) N (m + 1) (exK (finish (A_laws_heldIntS) S_laws_heldIntS Try.f36.results.toList) 0 ((A_laws_heldIntS).shape 15) kX kO) a0 k1 i5 = laws_heldIntS_b2 (laws_heldIntS_R2 (codeAt Try.f36 [1, 0, 1, 0, 0]) N m (exK (finish (A_laws_heldIntS) S_laws_heldIntS Try.f36.results.toList) 0 ((A_laws_heldIntS).shape 15) kX kO)) (fun (k1 : Int) => kX ([.u, .val I .i k1] ++ List.replicate 19 .u)) a0 k1 i5 := by kernel_rfl
theorem laws_heldIntS_iter2 (N : Nat) (kX : St → Option (Int × Unit)) (kO : Nat → St → Option (Int × Unit)) : ∀ (n : Nat) (a0 : (List Int)) (k1 : Int) (i5 : Int), laws_heldIntS_R2 (codeAt Try.f36 [1, 0, 1, 0, 0]) N n (exK (finish (A_laws_heldIntS) S_laws_heldIntS Try.f36.results.toList) 0 ((A_laws_heldIntS).shape 15) kX kO) a0 k1 i5 = laws_heldIntS_l2 N (fun (k1 : Int) => kX ([.u, .val I .i k1] ++ List.replicate 19 .u)) n a0 k1 i5
  | 0, _, _, _ => rfl
  | m + 1, a0, k1, i5 => by
    have hrec : laws_heldIntS_R2 (codeAt Try.f36 [1, 0, 1, 0, 0]) N m (exK (finish (A_laws_heldIntS) S_laws_heldIntS Try.f36.results.toList) 0 ((A_laws_heldIntS).shape 15) kX kO) = (laws_heldIntS_l2 N (fun (k1 : Int) => kX ([.u, .val I .i k1] ++ List.replicate 19 .u)) m) := (funext fun a0 => (funext fun k1 => (funext fun i5 => laws_heldIntS_iter2 N kX kO m a0 k1 i5)))
    refine (laws_heldIntS_step2 N m kX kO a0 k1 i5).trans ?_
    rw [hrec]
    rfl
theorem laws_heldIntS_after2 (N : Nat) (k1 : Int) : (fun st' => run (A_laws_heldIntS) N (codeAt Try.f36 [1, 1]) st' (finish (A_laws_heldIntS) S_laws_heldIntS Try.f36.results.toList)) ([.u, .val I .i k1] ++ List.replicate 19 .u) = laws_heldIntS_a2 k1 := by kernel_rfl
theorem laws_heldIntS_in2 (N : Nat) (a0 : (List Int)) (k1 : Int) (i5 : Int) : laws_heldIntS_R2 (codeAt Try.f36 [1, 0, 1, 0, 0]) N N (blockK 0 (seqK ((A_laws_heldIntS).shape 15) (run (A_laws_heldIntS) N (codeAt Try.f36 [1, 1])) (finish (A_laws_heldIntS) S_laws_heldIntS Try.f36.results.toList))) a0 k1 i5 = laws_heldIntS_F2 N a0 k1 i5 :=
  have h : (fun (k1 : Int) => (fun st' => run (A_laws_heldIntS) N (codeAt Try.f36 [1, 1]) st' (finish (A_laws_heldIntS) S_laws_heldIntS Try.f36.results.toList)) ([.u, .val I .i k1] ++ List.replicate 19 .u)) = (laws_heldIntS_a2) := (funext fun k1 => laws_heldIntS_after2 N k1)
  have e : laws_heldIntS_R2 (codeAt Try.f36 [1, 0, 1, 0, 0]) N N (blockK 0 (seqK ((A_laws_heldIntS).shape 15) (run (A_laws_heldIntS) N (codeAt Try.f36 [1, 1])) (finish (A_laws_heldIntS) S_laws_heldIntS Try.f36.results.toList))) a0 k1 i5 = laws_heldIntS_R2 (codeAt Try.f36 [1, 0, 1, 0, 0]) N N (exK (finish (A_laws_heldIntS) S_laws_heldIntS Try.f36.results.toList) 0 ((A_laws_heldIntS).shape 15) (fun st' => run (A_laws_heldIntS) N (codeAt Try.f36 [1, 1]) st' (finish (A_laws_heldIntS) S_laws_heldIntS Try.f36.results.toList)) (fun j st => (blockK 0 (seqK ((A_laws_heldIntS).shape 15) (run (A_laws_heldIntS) N (codeAt Try.f36 [1, 1])) (finish (A_laws_heldIntS) S_laws_heldIntS Try.f36.results.toList))) (.exit j) st)) a0 k1 i5 := iter_ex (fun st => by kernel_rfl) (fun st => by kernel_rfl)
  (e.trans (laws_heldIntS_iter2 N (fun st' => run (A_laws_heldIntS) N (codeAt Try.f36 [1, 1]) st' (finish (A_laws_heldIntS) S_laws_heldIntS Try.f36.results.toList)) (fun j st => (blockK 0 (seqK ((A_laws_heldIntS).shape 15) (run (A_laws_heldIntS) N (codeAt Try.f36 [1, 1])) (finish (A_laws_heldIntS) S_laws_heldIntS Try.f36.results.toList))) (.exit j) st) N a0 k1 i5)).trans (congrArg (fun k => laws_heldIntS_l2 N k N a0 k1 i5) h)
theorem run0_laws_heldIntS (N : Nat) (x : (S_laws_heldIntS).a.den) : runF (A_laws_heldIntS) N Try.f36 S_laws_heldIntS x = (laws_heldIntS_s (laws_heldIntS_R2 (codeAt Try.f36 [1, 0, 1, 0, 0]) N N (blockK 0 (seqK ((A_laws_heldIntS).shape 15) (run (A_laws_heldIntS) N (codeAt Try.f36 [1, 1])) (finish (A_laws_heldIntS) S_laws_heldIntS Try.f36.results.toList)))) x.1 x.2.1) := by kernel_rfl
theorem run_laws_heldIntS (N : Nat) (x : (S_laws_heldIntS).a.den) : runF (A_laws_heldIntS) N Try.f36 S_laws_heldIntS x = laws_heldIntS N x.1 x.2.1 := by
  refine (run0_laws_heldIntS N x).trans ?_
  rw [(funext fun a0 => (funext fun k1 => (funext fun i5 => laws_heldIntS_in2 N a0 k1 i5)))]
  rfl
theorem fn_laws_heldIntS : FnOk Try.prog 36 := ⟨_, Try.func36, by kernel_rfl, by kernel_rfl⟩
theorem good_laws_heldIntS : Gx.Good Try.prog 36 S_laws_heldIntS := good_of_run Try.func36 (of_decide_eq_true (by kernel_rfl)) fun x r h => ⟨A_laws_heldIntS, big, mkCfg_ok tabOk, mkCfg_sigs (show SigsOk Try.prog [] from trivial), (run_laws_heldIntS big x).trans h⟩

/-! laws_FnExactRowPolar -/
def laws_FnExactRowPolar_s (aCells_0 : (List (List Bool))) (aRows_1 : (List Int)) : Option (Bool × Unit) :=
  cond (decide ((1048576 : Int) < (aRows_1.length : Int)))
  (some (true, (())))
  ((laws_szBoolSS big aCells_0 (1048576 : Int)).bind fun rq1 =>
  cond (decide (rq1.1 < (0 : Int)))
  (some (true, (())))
  ((laws_toBoolSS big aCells_0).bind fun rq2 =>
  (laws_toIntS big aRows_1).bind fun rq3 =>
  (spec_RowPolar rq2.1 rq3.1).bind fun rq4 =>
  (laws_toBoolSS big aCells_0).bind fun rq5 =>
  (laws_toIntS big aRows_1).bind fun rq6 =>
  (impl_RowPolar rq5.1 rq6.1).bind fun rq7 =>
  (laws_eqIntS big rq7.1.1 rq4.1.1).bind fun rq8 =>
  cond (!rq8.1)
  (some (false, (())))
  (cond (((((), rq7.1.2).2).1) != ((((), rq4.1.2).2).1))
  (some (false, (())))
  ((laws_toBoolSS big aCells_0).bind fun rq9 =>
  (laws_eqBoolSS big rq5.1 rq9.1).bind fun rq10 =>
  cond (!rq10.1)
  (some (false, (())))
  ((laws_toIntS big aRows_1).bind fun rq11 =>
  (laws_eqIntS big rq6.1 rq11.1).bind fun rq12 =>
  cond (!rq12.1)
  (some (false, (())))
  ((laws_markBoolSS big rq5.1 (1 : Int)).bind fun rq13 =>
  (laws_markIntS big rq6.1 rq13.1).bind fun rq14 =>
  cond (decide (rq14.1 < (0 : Int)))
  (some (false, (())))
  ((laws_eqIntS big rq7.1.1 rq4.1.1).bind fun rq15 =>
  cond (!rq15.1)
  (some (false, (())))
  (cond (((((), rq7.1.2).2).1) != ((((), rq4.1.2).2).1))
  (some (false, (())))
  ((laws_markIntS big rq7.1.1 (1 : Int)).bind fun rq16 =>
  (laws_heldIntS big rq16.2.1 (1 : Int)).bind fun rq17 =>
  cond (decide (rq17.1 < (0 : Int)))
  (some (false, (())))
  (cond (decide (rq17.1 ≠ rq16.1))
  (some (false, (())))
  ((laws_toBoolSS big aCells_0).bind fun rq18 =>
  (laws_toIntS big aRows_1).bind fun rq19 =>
  (impl_RowPolar rq18.1 rq19.1).bind fun rq20 =>
  (laws_eqIntS big rq20.1.1 rq4.1.1).bind fun rq21 =>
  cond (!rq21.1)
  (some (false, (())))
  (cond (((((), rq20.1.2).2).1) != ((((), rq4.1.2).2).1))
  (some (false, (())))
  ((laws_heldIntS big rq16.2.1 (1 : Int)).bind fun rq22 =>
  cond (decide (rq22.1 < (0 : Int)))
  (some (false, (())))
  (cond (decide (rq22.1 ≠ rq16.1))
  (some (false, (())))
  (some (true, (())))))))))))))))))
def laws_FnExactRowPolar (aCells_0 : (List (List Bool))) (aRows_1 : (List Int)) : Option (Bool × Unit) := laws_FnExactRowPolar_s aCells_0 aRows_1
def S_laws_FnExactRowPolar : Sig := { a := (.pair (.sl (.sl .bool)) (.pair (.sl I) .unit)), md := [0, 0], mf := [], m := .unit, r := .bool, rf := .i, f := fun x => laws_FnExactRowPolar x.1 x.2.1 }
def A_laws_FnExactRowPolar : Cfg := mkCfg tab [(30, S_laws_szBoolSS), (32, S_laws_toBoolSS), (16, S_laws_toIntS), (31, S_spec_RowPolar), (33, S_impl_RowPolar), (18, S_laws_eqIntS), (34, S_laws_eqBoolSS), (35, S_laws_markBoolSS), (27, S_laws_markIntS), (36, S_laws_heldIntS)] []
theorem run_laws_FnExactRowPolar (N : Nat) (x : (S_laws_FnExactRowPolar).a.den) : runF (A_laws_FnExactRowPolar) N Try.f6 S_laws_FnExactRowPolar x = laws_FnExactRowPolar x.1 x.2.1 := by kernel_rfl
theorem fn_laws_FnExactRowPolar : FnOk Try.prog 6 := ⟨_, Try.func6, by kernel_rfl, by kernel_rfl⟩
theorem good_laws_FnExactRowPolar : Gx.Good Try.prog 6 S_laws_FnExactRowPolar := good_of_run Try.func6 (of_decide_eq_true (by kernel_rfl)) fun x r h => ⟨A_laws_FnExactRowPolar, big, mkCfg_ok tabOk, mkCfg_sigs (show SigsOk Try.prog [(30, S_laws_szBoolSS), (32, S_laws_toBoolSS), (16, S_laws_toIntS), (31, S_spec_RowPolar), (33, S_impl_RowPolar), (18, S_laws_eqIntS), (34, S_laws_eqBoolSS), (35, S_laws_markBoolSS), (27, S_laws_markIntS), (36, S_laws_heldIntS)] from ⟨⟨fn_laws_szBoolSS, good_laws_szBoolSS⟩, ⟨fn_laws_toBoolSS, good_laws_toBoolSS⟩, ⟨fn_laws_toIntS, good_laws_toIntS⟩, ⟨fn_spec_RowPolar, good_spec_RowPolar⟩, ⟨fn_impl_RowPolar, good_impl_RowPolar⟩, ⟨fn_laws_eqIntS, good_laws_eqIntS⟩, ⟨fn_laws_eqBoolSS, good_laws_eqBoolSS⟩, ⟨fn_laws_markBoolSS, good_laws_markBoolSS⟩, ⟨fn_laws_markIntS, good_laws_markIntS⟩, ⟨fn_laws_heldIntS, good_laws_heldIntS⟩, trivial⟩), (run_laws_FnExactRowPolar big x).trans h⟩

/-! spec_l30Column -/
def spec_l30Column_b7 (rec : (List (List Bool)) → (List Int) → (List Int) → Int → Bool → Int → Option ((List Int) × Unit)) (k : (List (List Bool)) → (List Int) → (List Int) → Int → Bool → Option ((List Int) × Unit)) (cells0 : (List (List Bool))) (columns1 : (List Int)) (out5 : (List Int)) (r6 : Int) (all7 : Bool) (i8 : Int) : Option ((List Int) × Unit) :=
  cond (decide (i8 < (columns1.length : Int)))
  (cond all7
  ((atI cells0 r6).bind fun xq1 =>
  (atI columns1 i8).bind fun xq2 =>
  (atI xq1 xq2).bind fun xq3 =>
  rec cells0 columns1 out5 r6 xq3 (IntKind.i64.wrap (i8 + (1 : Int))))
  (rec cells0 columns1 out5 r6 false (IntKind.i64.wrap (i8 + (1 : Int)))))
  (k cells0 columns1 out5 r6 all7)
def spec_l30Column_a7 (rec : (List (List Bool)) → (List Int) → (List Int) → Int → Option ((List Int) × Unit)) (cells0 : (List (List Bool))) (columns1 : (List Int)) (out5 : (List Int)) (r6 : Int) (all7 : Bool) : Option ((List Int) × Unit) :=
  cond all7
  ((appI out5 [r6]).bind fun xq4 =>
  rec cells0 columns1 xq4 (IntKind.i64.wrap (r6 + (1 : Int))))
  (rec cells0 columns1 out5 (IntKind.i64.wrap (r6 + (1 : Int))))
def spec_l30Column_b3 (L7 : (List (List Bool)) → (List Int) → (List Int) → Int → Bool → Int → Option ((List Int) × Unit)) (k : (List Int) → Option ((List Int) × Unit)) (cells0 : (List (List Bool))) (columns1 : (List Int)) (out5 : (List Int)) (r6 : Int) : Option ((List Int) × Unit) :=
  cond (decide (r6 < (cells0.length : Int)))
  (L7 cells0 columns1 out5 r6 true (0 : Int))
  (k out5)
def spec_l30Column_a3 (out5 : (List Int)) : Option ((List Int) × Unit) :=
  some (out5, (()))
def spec_l30Column_s (L3 : (List (List Bool)) → (List Int) → (List Int) → Int → Option ((List Int) × Unit)) (cells_0 : (List (List Bool))) (columns_1 : (List Int)) : Option ((List Int) × Unit) :=
  L3 cells_0 columns_1 [] (0 : Int)
def spec_l30Column_l7 (N : Nat) (k : (List (List Bool)) → (List Int) → (List Int) → Int → Bool → Option ((List Int) × Unit)) : Nat → (List (List Bool)) → (List Int) → (List Int) → Int → Bool → Int → Option ((List Int) × Unit)
  | 0, _, _, _, _, _, _ => none
  | m + 1, cells0, columns1, out5, r6, all7, i8 => spec_l30Column_b7 (spec_l30Column_l7 N k m) k cells0 columns1 out5 r6 all7 i8
def spec_l30Column_F7 (N : Nat) (rec : (List (List Bool)) → (List Int) → (List Int) → Int → Option ((List Int) × Unit)) (k : (List Int) → Option ((List Int) × Unit)) (cells0 : (List (List Bool))) (columns1 : (List Int)) (out5 : (List Int)) (r6 : Int) (all7 : Bool) (i8 : Int) : Option ((List Int) × Unit) := spec_l30Column_l7 N (spec_l30Column_a7 rec) N cells0 columns1 out5 r6 all7 i8
def spec_l30Column_l3 (N : Nat) (k : (List Int) → Option ((List Int) × Unit)) : Nat → (List (List Bool)) → (List Int) → (List Int) → Int → Option ((List Int) × Unit)
  | 0, _, _, _, _ => none
  | m + 1, cells0, columns1, out5, r6 => spec_l30Column_b3 (spec_l30Column_F7 N (spec_l30Column_l3 N k m) k) k cells0 columns1 out5 r6
def spec_l30Column_F3 (N : Nat) (cells0 : (List (List Bool))) (columns1 : (List Int)) (out5 : (List Int)) (r6 : Int) : Option ((List Int) × Unit) := spec_l30Column_l3 N (spec_l30Column_a3) N cells0 columns1 out5 r6
def spec_l30Column (N : Nat) (cells_0 : (List (List Bool))) (columns_1 : (List Int)) : Option ((List Int) × Unit) := spec_l30Column_s (spec_l30Column_F3 N) cells_0 columns_1
def S_spec_l30Column : Sig := { a := (.pair (.sl (.sl .bool)) (.pair (.sl I) .unit)), md := [0, 0], mf := [], m := .unit, r := (.sl I), rf := (.o .i), f := fun x => spec_l30Column big x.1 x.2.1 }
def A_spec_l30Column : Cfg := mkCfg tab [] [(6, [.as (.sl (.sl .bool)) .i, .as (.sl I) .i, .drop, .drop, .drop, .as (.sl I) (.o .i), .as I .i]), (14, [.as (.sl (.sl .bool)) .i, .as (.sl I) .i, .drop, .drop, .drop, .as (.sl I) (.o .i), .as I .i, .as .bool .i, .as I .i]), (25, [.drop, .drop, .drop, .drop, .drop, .as (.sl I) (.o .i)]), (21, [.as (.sl (.sl .bool)) .i, .as (.sl I) .i, .drop, .drop, .drop, .as (.sl I) (.o .i), .as I .i, .as .bool .i])]
def spec_l30Column_R3 (cd : Code) (N n : Nat) (K : Ex → St → Option ((List Int) × Unit)) (cells0 : (List (List Bool))) (columns1 : (List Int)) (out5 : (List Int)) (r6 : Int) : Option ((List Int) × Unit) := iter ((A_spec_l30Column).shape 6) (run (A_spec_l30Column) N cd) n ([.val (.sl (.sl .bool)) .i cells0, .val (.sl I) .i columns1, .u, .u, .u, .val (.sl I) (.o .i) out5, .val I .i r6] ++ List.replicate 34 .u) K
def spec_l30Column_R7 (cd : Code) (N n : Nat) (K : Ex → St → Option ((List Int) × Unit)) (cells0 : (List (List Bool))) (columns1 : (List Int)) (out5 : (List Int)) (r6 : Int) (all7 : Bool) (i8 : Int) : Option ((List Int) × Unit) := iter ((A_spec_l30Column).shape 14) (run (A_spec_l30Column) N cd) n ([.val (.sl (.sl .bool)) .i cells0, .val (.sl I) .i columns1, .u, .u, .u, .val (.sl I) (.o .i) out5, .val I .i r6, .val .bool .i all7, .val I .i i8] ++ List.replicate 32 .u) K
theorem spec_l30Column_step7 (N : Nat) (m : Nat) (kX : St → Option ((List Int) × Unit)) (kO : Nat → St → Option ((List Int) × Unit)) (cells0 : (List (List Bool))) (columns1 : (List Int)) (out5 : (List Int)) (r6 : Int) (all7 : Bool) (i8 : Int) : spec_l30Column_R7 (codeAt Try.f80 [1, 1, 0, 1, 0, 0, 1, 0, 0, 1, 0, 1, 0, 0]) N (m + 1) (exK (finish (A_spec_l30Column) S_spec_l30Column Try.f80.results.toList) 2 ((A_spec_l30Column).shape 21) kX kO) cells0 columns1 out5 r6 all7 i8 = spec_l30Column_b7 (spec_l30Column_R7 (codeAt Try.f80 [1, 1, 0, 1, 0, 0, 1, 0, 0, 1, 0, 1, 0, 0]) N m (exK (finish (A_spec_l30Column) S_spec_l30Column Try.f80.results.toList) 2 ((A_spec_l30Column).shape 21) kX kO)) (fun (cells0 : (List (List Bool))) (columns1 : (List Int)) (out5 : (List Int)) (r6 : Int) (all7 : Bool) => kX ([.val (.sl (.sl .bool)) .i cells0, .val (.sl I) .i columns1, .u, .u, .u, .val (.sl I) (.o .i) out5, .val I .i r6, .val .bool .i all7] ++ List.replicate 33 .u)) cells0 columns1 out5 r6 all7 i8 := by kernel_rfl
theorem spec_l30Column_iter7 (N : Nat) (kX : St → Option ((List Int) × Unit)) (kO : Nat → St → Option ((List Int) × Unit)) : ∀ (n : Nat) (cells0 : (List (List Bool))) (columns1 : (List Int)) (out5 : (List Int)) (r6 : Int) (all7 : Bool) (i8 : Int), spec_l30Column_R7 (codeAt Try.f80 [1, 1, 0, 1, 0, 0, 1, 0, 0, 1, 0, 1, 0, 0]) N n (exK (finish (A_spec_l30Column) S_spec_l30Column Try.f80.results.toList) 2 ((A_spec_l30Column).shape 21) kX kO) cells0 columns1 out5 r6 all7 i8 = spec_l30Column_l7 N (fun (cells0 : (List (List Bool))) (columns1 : (List Int)) (out5 : (List Int)) (r6 : Int) (all7 : Bool) => kX ([.val (.sl (.sl .bool)) .i cells0, .val (.sl I) .i columns1, .u, .u, .u, .val (.sl I) (.o .i) out5, .val I .i r6, .val .bool .i all7] ++ List.replicate 33 .u)) n cells0 columns1 out5 r6 all7 i8
  | 0, _, _, _, _, _, _ => rfl
  | m + 1, cells0, columns1, out5, r6, all7, i8 => by
    have hrec : spec_l30Column_R7 (codeAt Try.f80 [1, 1, 0, 1, 0, 0, 1, 0, 0, 1, 0, 1, 0, 0]) N m (exK (finish (A_spec_l30Column) S_spec_l30Column Try.f80.results.toList) 2 ((A_spec_l30Column).shape 21) kX kO) = (spec_l30Column_l7 N (fun (cells0 : (List (List Bool))) (columns1 : (List Int)) (out5 : (List Int)) (r6 : Int) (all7 : Bool) => kX ([.val (.sl (.sl .bool)) .i cells0, .val (.sl I) .i columns1, .u, .u, .u, .val (.sl I) (.o .i) out5, .val I .i r6, .val .bool .i all7] ++ List.replicate 33 .u)) m) := (funext fun cells0 => (funext fun columns1 => (funext fun out5 => (funext fun r6 => (funext fun all7 => (funext fun i8 => spec_l30Column_iter7 N kX kO m cells0 columns1 out5 r6 all7 i8))))))
    refine (spec_l30Column_step7 N m kX kO cells0 columns1 out5 r6 all7 i8).trans ?_
    rw [hrec]
    rfl
theorem spec_l30Column_after7 (N : Nat) (m : Nat) (kX : St → Option ((List Int) × Unit)) (kO : Nat → St → Option ((List Int) × Unit)) (cells0 : (List (List Bool))) (columns1 : (List Int)) (out5 : (List Int)) (r6 : Int) (all7 : Bool) : (fun st' => run (A_spec_l30Column) N (codeAt Try.f80 [1, 1, 0, 1, 0, 0, 1, 0, 0, 1, 1]) st' (blockK 1 (seqK ((A_spec_l30Column).shape 9) (run (A_spec_l30Column) N (codeAt Try.f80 [1, 1, 0, 1, 0, 0, 1, 1])) (iterK ((A_spec_l30Column).shape 6) (run (A_spec_l30Column) N (codeAt Try.f80 [1, 1, 0, 1, 0, 0])) m (exK (finish (A_spec_l30Column) S_spec_l30Column Try.f80.results.toList) 0 ((A_spec_l30Column).shape 25) kX kO))))) ([.val (.sl (.sl .bool)) .i cells0, .val (.sl I) .i columns1, .u, .u, .u, .val (.sl I) (.o .i) out5, .val I .i r6, .val .bool .i all7] ++ List.replicate 33 .u) = spec_l30Column_a7 (spec_l30Column_R3 (codeAt Try.f80 [1, 1, 0, 1, 0, 0]) N m (exK (finish (A_spec_l30Column) S_spec_l30Column Try.f80.results.toList) 0 ((A_spec_l30Column).shape 25) kX kO)) cells0 columns1 out5 r6 all7 := by kernel_rfl
theorem spec_l30Column_in7 (N : Nat) (m : Nat) (kX : St → Option ((List Int) × Unit)) (kO : Nat → St → Option ((List Int) × Unit)) (recF : (List (List Bool)) → (List Int) → (List Int) → Int → Option ((List Int) × Unit)) (hrec : spec_l30Column_R3 (codeAt Try.f80 [1, 1, 0, 1, 0, 0]) N m (exK (finish (A_spec_l30Column) S_spec_l30Column Try.f80.results.toList) 0 ((A_spec_l30Column).shape 25) kX kO) = recF) (cells0 : (List (List Bool))) (columns1 : (List Int)) (out5 : (List Int)) (r6 : Int) (all7 : Bool) (i8 : Int) : spec_l30Column_R7 (codeAt Try.f80 [1, 1, 0, 1, 0, 0, 1, 0, 0, 1, 0, 1, 0, 0]) N N (blockK 2 (seqK ((A_spec_l30Column).shape 21) (run (A_spec_l30Column) N (codeAt Try.f80 [1, 1, 0, 1, 0, 0, 1, 0, 0, 1, 1])) (blockK 1 (seqK ((A_spec_l30Column).shape 9) (run (A_spec_l30Column) N (codeAt Try.f80 [1, 1, 0, 1, 0, 0, 1, 1])) (iterK ((A_spec_l30Column).shape 6) (run (A_spec_l30Column) N (codeAt Try.f80 [1, 1, 0, 1, 0, 0])) m (exK (finish (A_spec_l30Column) S_spec_l30Column Try.f80.results.toList) 0 ((A_spec_l30Column).shape 25) kX kO)))))) cells0 columns1 out5 r6 all7 i8 = spec_l30Column_F7 N recF (fun (out5 : (List Int)) => kX ([.u, .u, .u, .u, .u, .val (.sl I) (.o .i) out5] ++ List.replicate 35 .u)) cells0 columns1 out5 r6 all7 i8 :=
  have h : (fun (cells0 : (List (List Bool))) (columns1 : (List Int)) (out5 : (List Int)) (r6 : Int) (all7 : Bool) => (fun st' => run (A_spec_l30Column) N (codeAt Try.f80 [1, 1, 0, 1, 0, 0, 1, 0, 0, 1, 1]) st' (blockK 1 (seqK ((A_spec_l30Column).shape 9) (run (A_spec_l30Column) N (codeAt Try.f80 [1, 1, 0, 1, 0, 0, 1, 1])) (iterK ((A_spec_l30Column).shape 6) (run (A_spec_l30Column) N (codeAt Try.f80 [1, 1, 0, 1, 0, 0])) m (exK (finish (A_spec_l30Column) S_spec_l30Column Try.f80.results.toList) 0 ((A_spec_l30Column).shape 25) kX kO))))) ([.val (.sl (.sl .bool)) .i cells0, .val (.sl I) .i columns1, .u, .u, .u, .val (.sl I) (.o .i) out5, .val I .i r6, .val .bool .i all7] ++ List.replicate 33 .u)) = (spec_l30Column_a7 recF) := (funext fun cells0 => (funext fun columns1 => (funext fun out5 => (funext fun r6 => (funext fun all7 => (spec_l30Column_after7 N m kX kO cells0 columns1 out5 r6 all7).trans (by rw [hrec]))))))
  have e : spec_l30Column_R7 (codeAt Try.f80 [1, 1, 0, 1, 0, 0, 1, 0, 0, 1, 0, 1, 0, 0]) N N (blockK 2 (seqK ((A_spec_l30Column).shape 21) (run (A_spec_l30Column) N (codeAt Try.f80 [1, 1, 0, 1, 0, 0, 1, 0, 0, 1, 1])) (blockK 1 (seqK ((A_spec_l30Column).shape 9) (run (A_spec_l30Column) N (codeAt Try.f80 [1, 1, 0, 1, 0, 0, 1, 1])) (iterK ((A_spec_l30Column).shape 6) (run (A_spec_l30Column) N (codeAt Try.f80 [1, 1, 0, 1, 0, 0])) m (exK (finish (A_spec_l30Column) S_spec_l30Column Try.f80.results.toList) 0 ((A_spec_l30Column).shape 25) kX kO)))))) cells0 columns1 out5 r6 all7 i8 = spec_l30Column_R7 (codeAt Try.f80 [1, 1, 0, 1, 0, 0, 1, 0, 0, 1, 0, 1, 0, 0]) N N (exK (finish (A_spec_l30Column) S_spec_l30Column Try.f80.results.toList) 2 ((A_spec_l30Column).shape 21) (fun st' => run (A_spec_l30Column) N (codeAt Try.f80 [1, 1, 0, 1, 0, 0, 1, 0, 0, 1, 1]) st' (blockK 1 (seqK ((A_spec_l30Column).shape 9) (run (A_spec_l30Column) N (codeAt Try.f80 [1, 1, 0, 1, 0, 0, 1, 1])) (iterK ((A_spec_l30Column).shape 6) (run (A_spec_l30Column) N (codeAt Try.f80 [1, 1, 0, 1, 0, 0])) m (exK (finish (A_spec_l30Column) S_spec_l30Column Try.f80.results.toList) 0 ((A_spec_l30Column).shape 25) kX kO))))) (fun j st => (blockK 2 (seqK ((A_spec_l30Column).shape 21) (run (A_spec_l30Column) N (codeAt Try.f80 [1, 1, 0, 1, 0, 0, 1, 0, 0, 1, 1])) (blockK 1 (seqK ((A_spec_l30Column).shape 9) (run (A_spec_l30Column) N (codeAt Try.f80 [1, 1, 0, 1, 0, 0, 1, 1])) (iterK ((A_spec_l30Column).shape 6) (run (A_spec_l30Column) N (codeAt Try.f80 [1, 1, 0, 1, 0, 0])) m (exK (finish (A_spec_l30Column) S_spec_l30Column Try.f80.results.toList) 0 ((A_spec_l30Column).shape 25) kX kO)))))) (.exit j) st)) cells0 columns1 out5 r6 all7 i8 := iter_ex (fun st => by kernel_rfl) (fun st => by kernel_rfl)
  (e.trans (spec_l30Column_iter7 N (fun st' => run (A_spec_l30Column) N (codeAt Try.f80 [1, 1, 0, 1, 0, 0, 1, 0, 0, 1, 1]) st' (blockK 1 (seqK ((A_spec_l30Column).shape 9) (run (A_spec_l30Column) N (codeAt Try.f80 [1, 1, 0, 1, 0, 0, 1, 1])) (iterK ((A_spec_l30Column).shape 6) (run (A_spec_l30Column) N (codeAt Try.f80 [1, 1, 0, 1, 0, 0])) m (exK (finish (A_spec_l30Column) S_spec_l30Column Try.f80.results.toList) 0 ((A_spec_l30Column).shape 25) kX kO))))) (fun j st => (blockK 2 (seqK ((A_spec_l30Column).shape 21) (run (A_spec_l30Column) N (codeAt Try.f80 [1, 1, 0, 1, 0, 0, 1, 0, 0, 1, 1])) (blockK 1 (seqK ((A_spec_l30Column).shape 9) (run (A_spec_l30Column) N (codeAt Try.f80 [1, 1, 0, 1, 0, 0, 1, 1])) (iterK ((A_spec_l30Column).shape 6) (run (A_spec_l30Column) N (codeAt Try.f80 [1, 1, 0, 1, 0, 0])) m (exK (finish (A_spec_l30Column) S_spec_l30Column Try.f80.results.toList) 0 ((A_spec_l30Column).shape 25) kX kO)))))) (.exit j) st) N cells0 columns1 out5 r6 all7 i8)).trans (congrArg (fun k => spec_l30Column_l7 N k N cells0 columns1 out5 r6 all7 i8) h)
theorem spec_l30Column_step3 (N : Nat) (m : Nat) (kX : St → Option ((List Int) × Unit)) (kO : Nat → St → Option ((List Int) × Unit)) (cells0 : (List (List Bool))) (columns1 : (List Int)) (out5 : (List Int)) (r6 : Int) : spec_l30Column_R3 (codeAt Try.f80 [1, 1, 0, 1, 0, 0]) N (m + 1) (exK (finish (A_spec_l30Column) S_spec_l30Column Try.f80.results.toList) 0 ((A_spec_l30Column).shape 25) kX kO) cells0 columns1 out5 r6 = spec_l30Column_b3 (spec_l30Column_R7 (codeAt Try.f80 [1, 1, 0, 1, 0, 0, 1, 0, 0, 1, 0, 1, 0, 0]) N N (blockK 2 (seqK ((A_spec_l30Column).shape 21) (run (A_spec_l30Column) N (codeAt Try.f80 [1, 1, 0, 1, 0, 0, 1, 0, 0, 1, 1])) (blockK 1 (seqK ((A_spec_l30Column).shape 9) (run (A_spec_l30Column) N (codeAt Try.f80 [1, 1, 0, 1, 0, 0, 1, 1])) (iterK ((A_spec_l30Column).shape 6) (run (A_spec_l30Column) N (codeAt Try.f80 [1, 1, 0, 1, 0, 0])) m (exK (finish (A_spec_l30Column) S_spec_l30Column Try.f80.results.toList) 0 ((A_spec_l30Column).shape 25) kX kO))))))) (fun (out5 : (List Int)) => kX ([.u, .u, .u, .u, .u, .val (.sl I) (.o .i) out5] ++ List.replicate 35 .u)) cells0 columns1 out5 r6 := by kernel_rfl
theorem spec_l30Column_iter3 (N : Nat) (kX : St → Option ((List Int) × Unit)) (kO : Nat → St → Option ((List Int) × Unit)) : ∀ (n : Nat) (cells0 : (List (List Bool))) (columns1 : (List Int)) (out5 : (List Int)) (r6 : Int), spec_l30Column_R3 (codeAt Try.f80 [1, 1, 0, 1, 0, 0]) N n (exK (finish (A_spec_l30Column) S_spec_l30Column Try.f80.results.toList) 0 ((A_spec_l30Column).shape 25) kX kO) cells0 columns1 out5 r6 = spec_l30Column_l3 N (fun (out5 : (List Int)) => kX ([.u, .u, .u, .u, .u, .val (.sl I) (.o .i) out5] ++ List.replicate 35 .u)) n cells0 columns1 out5 r6
  | 0, _, _, _, _ => rfl
  | m + 1, cells0, columns1, out5, r6 => by
    have hrec : spec_l30Column_R3 (codeAt Try.f80 [1, 1, 0, 1, 0, 0]) N m (exK (finish (A_spec_l30Column) S_spec_l30Column Try.f80.results.toList) 0 ((A_spec_l30Column).shape 25) kX kO) = (spec_l30Column_l3 N (fun (out5 : (List Int)) => kX ([.u, .u, .u, .u, .u, .val (.sl I) (.o .i) out5] ++ List.replicate 35 .u)) m) := (funext fun cells0 => (funext fun columns1 => (funext fun out5 => (funext fun r6 => spec_l30Column_iter3 N kX kO m cells0 columns1 out5 r6))))
    refine (spec_l30Column_step3 N m kX kO cells0 columns1 out5 r6).trans ?_
    rw [(funext fun cells0 => (funext fun columns1 => (funext fun out5 => (funext fun r6 => (funext fun all7 => (funext fun i8 => spec_l30Column_in7 N m kX kO (spec_l30Column_l3 N (fun (out5 : (List Int)) => kX ([.u, .u, .u, .u, .u, .val (.sl I) (.o .i) out5] ++ List.replicate 35 .u)) m) hrec cells0 columns1 out5 r6 all7 i8))))))]
    rfl
theorem spec_l30Column_after3 (N : Nat) (out5 : (List Int)) : (fun st' => run (A_spec_l30Column) N (codeAt Try.f80 [1, 1, 1]) st' (finish (A_spec_l30Column) S_spec_l30Column Try.f80.results.toList)) ([.u, .u, .u, .u, .u, .val (.sl I) (.o .i) out5] ++ List.replicate 35 .u) = spec_l30Column_a3 out5 := by kernel_rfl
theorem spec_l30Column_in3 (N : Nat) (cells0 : (List (List Bool))) (columns1 : (List Int)) (out5 : (List Int)) (r6 : Int) : spec_l30Column_R3 (codeAt Try.f80 [1, 1, 0, 1, 0, 0]) N N (blockK 0 (seqK ((A_spec_l30Column).shape 25) (run (A_spec_l30Column) N (codeAt Try.f80 [1, 1, 1])) (finish (A_spec_l30Column) S_spec_l30Column Try.f80.results.toList))) cells0 columns1 out5 r6 = spec_l30Column_F3 N cells0 columns1 out5 r6 :=
  have h : (fun (out5 : (List Int)) => (fun st' => run (A_spec_l30Column) N (codeAt Try.f80 [1, 1, 1]) st' (finish (A_spec_l30Column) S_spec_l30Column Try.f80.results.toList)) ([.u, .u, .u, .u, .u, .val (.sl I) (.o .i) out5] ++ List.replicate 35 .u)) = (spec_l30Column_a3) := (funext fun out5 => spec_l30Column_after3 N out5)
  have e : spec_l30Column_R3 (codeAt Try.f80 [1, 1, 0, 1, 0, 0]) N N (blockK 0 (seqK ((A_spec_l30Column).shape 25) (run (A_spec_l30Column) N (codeAt Try.f80 [1, 1, 1])) (finish (A_spec_l30Column) S_spec_l30Column Try.f80.results.toList))) cells0 columns1 out5 r6 = spec_l30Column_R3 (codeAt Try.f80 [1, 1, 0, 1, 0, 0]) N N (exK (finish (A_spec_l30Column) S_spec_l30Column Try.f80.results.toList) 0 ((A_spec_l30Column).shape 25) (fun st' => run (A_spec_l30Column) N (codeAt Try.f80 [1, 1, 1]) st' (finish (A_spec_l30Column) S_spec_l30Column Try.f80.results.toList)) (fun j st => (blockK 0 (seqK ((A_spec_l30Column).shape 25) (run (A_spec_l30Column) N (codeAt Try.f80 [1, 1, 1])) (finish (A_spec_l30Column) S_spec_l30Column Try.f80.results.toList))) (.exit j) st)) cells0 columns1 out5 r6 := iter_ex (fun st => by kernel_rfl) (fun st => by kernel_rfl)
  (e.trans (spec_l30Column_iter3 N (fun st' => run (A_spec_l30Column) N (codeAt Try.f80 [1, 1, 1]) st' (finish (A_spec_l30Column) S_spec_l30Column Try.f80.results.toList)) (fun j st => (blockK 0 (seqK ((A_spec_l30Column).shape 25) (run (A_spec_l30Column) N (codeAt Try.f80 [1, 1, 1])) (finish (A_spec_l30Column) S_spec_l30Column Try.f80.results.toList))) (.exit j) st) N cells0 columns1 out5 r6)).trans (congrArg (fun k => spec_l30Column_l3 N k N cells0 columns1 out5 r6) h)
theorem run0_spec_l30Column (N : Nat) (x : (S_spec_l30Column).a.den) : runF (A_spec_l30Column) N Try.f80 S_spec_l30Column x = (spec_l30Column_s (spec_l30Column_R3 (codeAt Try.f80 [1, 1, 0, 1, 0, 0]) N N (blockK 0 (seqK ((A_spec_l30Column).shape 25) (run (A_spec_l30Column) N (codeAt Try.f80 [1, 1, 1])) (finish (A_spec_l30Column) S_spec_l30Column Try.f80.results.toList)))) x.1 x.2.1) := by kernel_rfl
theorem run_spec_l30Column (N : Nat) (x : (S_spec_l30Column).a.den) : runF (A_spec_l30Column) N Try.f80 S_spec_l30Column x = spec_l30Column N x.1 x.2.1 := by
  refine (run0_spec_l30Column N x).trans ?_
  rw [(funext fun cells0 => (funext fun columns1 => (funext fun out5 => (funext fun r6 => spec_l30Column_in3 N cells0 columns1 out5 r6))))]
  rfl
theorem fn_spec_l30Column : FnOk Try.prog 80 := ⟨_, Try.func80, by kernel_rfl, by kernel_rfl⟩
theorem good_spec_l30Column : Gx.Good Try.prog 80 S_spec_l30Column := good_of_run Try.func80 (of_decide_eq_true (by kernel_rfl)) fun x r h => ⟨A_spec_l30Column, big, mkCfg_ok tabOk, mkCfg_sigs (show SigsOk Try.prog [] from trivial), (run_spec_l30Column big x).trans h⟩

/-! spec_ColumnPolar -/
def spec_ColumnPolar_s (cells_0 : (List (List Bool))) (columns_1 : (List Int)) : Option (((List Int) × (Bool × Unit)) × Unit) :=
  (spec_l30Context big cells_0).bind fun rq1 =>
  cond (!rq1.1)
  (some (([], false, ()), (())))
  ((spec_l30Columns cells_0).bind fun rq2 =>
  (spec_l30Set rq2.1 columns_1).bind fun rq3 =>
  cond (!rq3.1)
  (some (([], false, ()), (())))
  ((spec_l30Column big cells_0 columns_1).bind fun rq4 =>
  some ((rq4.1, true, ()), (()))))
def spec_ColumnPolar (cells_0 : (List (List Bool))) (columns_1 : (List Int)) : Option (((List Int) × (Bool × Unit)) × Unit) := spec_ColumnPolar_s cells_0 columns_1
def S_spec_ColumnPolar : Sig := { a := (.pair (.sl (.sl .bool)) (.pair (.sl I) .unit)), md := [0, 0], mf := [], m := .unit, r := (.tup (.pair (.sl I) (.pair .bool .unit))), rf := (.p (.o .i) .i), f := fun x => spec_ColumnPolar x.1 x.2.1 }
def A_spec_ColumnPolar : Cfg := mkCfg tab [(68, S_spec_l30Context), (79, S_spec_l30Columns), (69, S_spec_l30Set), (80, S_spec_l30Column)] []
theorem run_spec_ColumnPolar (N : Nat) (x : (S_spec_ColumnPolar).a.den) : runF (A_spec_ColumnPolar) N Try.f37 S_spec_ColumnPolar x = spec_ColumnPolar x.1 x.2.1 := by kernel_rfl
theorem fn_spec_ColumnPolar : FnOk Try.prog 37 := ⟨_, Try.func37, by kernel_rfl, by kernel_rfl⟩
theorem good_spec_ColumnPolar : Gx.Good Try.prog 37 S_spec_ColumnPolar := good_of_run Try.func37 (of_decide_eq_true (by kernel_rfl)) fun x r h => ⟨A_spec_ColumnPolar, big, mkCfg_ok tabOk, mkCfg_sigs (show SigsOk Try.prog [(68, S_spec_l30Context), (79, S_spec_l30Columns), (69, S_spec_l30Set), (80, S_spec_l30Column)] from ⟨⟨fn_spec_l30Context, good_spec_l30Context⟩, ⟨fn_spec_l30Columns, good_spec_l30Columns⟩, ⟨fn_spec_l30Set, good_spec_l30Set⟩, ⟨fn_spec_l30Column, good_spec_l30Column⟩, trivial⟩), (run_spec_ColumnPolar big x).trans h⟩

/-! impl_columnPolar_c1 -/
def impl_columnPolar_c1_s (x_0 : Int) (y_1 : Int) (p_2 : (List (List Bool))) : Option (Bool × Unit) :=
  (atI p_2 y_1).bind fun xq1 =>
  (atI xq1 x_0).bind fun xq2 =>
  some (xq2, (()))
def impl_columnPolar_c1 (x_0 : Int) (y_1 : Int) (p_2 : (List (List Bool))) : Option (Bool × Unit) := impl_columnPolar_c1_s x_0 y_1 p_2
def S_impl_columnPolar_c1 : Sig := { a := (.pair I (.pair I (.pair (.ptr (.sl (.sl .bool))) .unit))), md := [0, 0, 0], mf := [], m := .unit, r := .bool, rf := .i, f := fun x => impl_columnPolar_c1 x.1 x.2.1 x.2.2.1 }
def A_impl_columnPolar_c1 : Cfg := mkCfg tab [] []
theorem run_impl_columnPolar_c1 (N : Nat) (x : (S_impl_columnPolar_c1).a.den) : runF (A_impl_columnPolar_c1) N Try.f125 S_impl_columnPolar_c1 x = impl_columnPolar_c1 x.1 x.2.1 x.2.2.1 := by kernel_rfl
theorem fn_impl_columnPolar_c1 : FnOk Try.prog 125 := ⟨_, Try.func125, by kernel_rfl, by kernel_rfl⟩
theorem good_impl_columnPolar_c1 : Gx.Good Try.prog 125 S_impl_columnPolar_c1 := good_of_run Try.func125 (of_decide_eq_true (by kernel_rfl)) fun x r h => ⟨A_impl_columnPolar_c1, big, mkCfg_ok tabOk, mkCfg_sigs (show SigsOk Try.prog [] from trivial), (run_impl_columnPolar_c1 big x).trans h⟩

/-! impl_polar_k_columnPolar_c1 -/
def impl_polar_k_columnPolar_c1_b7 (rec : Int → (List Int) → ((List (List Bool)) × Unit) → (List Int) → Int → Bool → (List Int) → Int → Int → Option ((List Int) × Unit)) (k : Int → (List Int) → ((List (List Bool)) × Unit) → (List Int) → Int → Bool → Option ((List Int) × Unit)) (n0 : Int) (set1 : (List Int)) (cell2 : ((List (List Bool)) × Unit)) (list7 : (List Int)) (y8 : Int) (all9 : Bool) (t18 : (List Int)) (t19 : Int) (t20 : Int) : Option ((List Int) × Unit) :=
  cond (decide (t20 < t19))
  ((atI t18 t20).bind fun xq1 =>
  cond all9
  ((impl_columnPolar_c1 xq1 y8 cell2.1).bind fun rq2 =>
  rec n0 set1 cell2 list7 y8 rq2.1 t18 t19 (IntKind.i64.wrap (t20 + (1 : Int))))
  (rec n0 set1 cell2 list7 y8 false t18 t19 (IntKind.i64.wrap (t20 + (1 : Int)))))
  (k n0 set1 cell2 list7 y8 all9)
def impl_polar_k_columnPolar_c1_a7 (rec : Int → (List Int) → ((List (List Bool)) × Unit) → (List Int) → Int → Option ((List Int) × Unit)) (n0 : Int) (set1 : (List Int)) (cell2 : ((List (List Bool)) × Unit)) (list7 : (List Int)) (y8 : Int) (all9 : Bool) : Option ((List Int) × Unit) :=
  cond all9
  ((appI list7 [y8]).bind fun xq3 =>
  rec n0 set1 cell2 xq3 (IntKind.i64.wrap (y8 + (1 : Int))))
  (rec n0 set1 cell2 list7 (IntKind.i64.wrap (y8 + (1 : Int))))
def impl_polar_k_columnPolar_c1_b3 (L7 : Int → (List Int) → ((List (List Bool)) × Unit) → (List Int) → Int → Bool → (List Int) → Int → Int → Option ((List Int) × Unit)) (k : (List Int) → Option ((List Int) × Unit)) (n0 : Int) (set1 : (List Int)) (cell2 : ((List (List Bool)) × Unit)) (list7 : (List Int)) (y8 : Int) : Option ((List Int) × Unit) :=
  cond (decide (y8 < n0))
  (L7 n0 set1 cell2 list7 y8 true set1 (set1.length : Int) (0 : Int))
  (k list7)
def impl_polar_k_columnPolar_c1_a3 (list7 : (List Int)) : Option ((List Int) × Unit) :=
  some (list7, (()))
def impl_polar_k_columnPolar_c1_s (L3 : Int → (List Int) → ((List (List Bool)) × Unit) → (List Int) → Int → Option ((List Int) × Unit)) (n_0 : Int) (set_1 : (List Int)) (cell_2 : ((List (List Bool)) × Unit)) : Option ((List Int) × Unit) :=
  L3 n_0 set_1 cell_2 [] (0 : Int)
def impl_polar_k_columnPolar_c1_l7 (N : Nat) (k : Int → (List Int) → ((List (List Bool)) × Unit) → (List Int) → Int → Bool → Option ((List Int) × Unit)) : Nat → Int → (List Int) → ((List (List Bool)) × Unit) → (List Int) → Int → Bool → (List Int) → Int → Int → Option ((List Int) × Unit)
  | 0, _, _, _, _, _, _, _, _, _ => none
  | m + 1, n0, set1, cell2, list7, y8, all9, t18, t19, t20 => impl_polar_k_columnPolar_c1_b7 (impl_polar_k_columnPolar_c1_l7 N k m) k n0 set1 cell2 list7 y8 all9 t18 t19 t20
def impl_polar_k_columnPolar_c1_F7 (N : Nat) (rec : Int → (List Int) → ((List (List Bool)) × Unit) → (List Int) → Int → Option ((List Int) × Unit)) (k : (List Int) → Option ((List Int) × Unit)) (n0 : Int) (set1 : (List Int)) (cell2 : ((List (List Bool)) × Unit)) (list7 : (List Int)) (y8 : Int) (all9 : Bool) (t18 : (List Int)) (t19 : Int) (t20 : Int) : Option ((List Int) × Unit) := impl_polar_k_columnPolar_c1_l7 N (impl_polar_k_columnPolar_c1_a7 rec) N n0 set1 cell2 list7 y8 all9 t18 t19 t20
def impl_polar_k_columnPolar_c1_l3 (N : Nat) (k : (List Int) → Option ((List Int) × Unit)) : Nat → Int → (List Int) → ((List (List Bool)) × Unit) → (List Int) → Int → Option ((List Int) × Unit)
  | 0, _, _, _, _, _ => none
  | m + 1, n0, set1, cell2, list7, y8 => impl_polar_k_columnPolar_c1_b3 (impl_polar_k_columnPolar_c1_F7 N (impl_polar_k_columnPolar_c1_l3 N k m) k) k n0 set1 cell2 list7 y8
def impl_polar_k_columnPolar_c1_F3 (N : Nat) (n0 : Int) (set1 : (List Int)) (cell2 : ((List (List Bool)) × Unit)) (list7 : (List Int)) (y8 : Int) : Option ((List Int) × Unit) := impl_polar_k_columnPolar_c1_l3 N (impl_polar_k_columnPolar_c1_a3) N n0 set1 cell2 list7 y8
def impl_polar_k_columnPolar_c1 (N : Nat) (n_0 : Int) (set_1 : (List Int)) (cell_2 : ((List (List Bool)) × Unit)) : Option ((List Int) × Unit) := impl_polar_k_columnPolar_c1_s (impl_polar_k_columnPolar_c1_F3 N) n_0 set_1 cell_2
def S_impl_polar_k_columnPolar_c1 : Sig := { a := (.pair I (.pair (.sl I) (.pair (.clo 125 0 (.pair (.ptr (.sl (.sl .bool))) .unit)) .unit))), md := [0, 0, 0], mf := [], m := .unit, r := (.sl I), rf := (.o .i), f := fun x => impl_polar_k_columnPolar_c1 big x.1 x.2.1 x.2.2.1 }
def A_impl_polar_k_columnPolar_c1 : Cfg := mkCfg tab [(125, S_impl_columnPolar_c1)] [(6, [.as I .i, .as (.sl I) .i, .as (.clo 125 0 (.pair (.ptr (.sl (.sl .bool))) .unit)) .i, .drop, .drop, .drop, .drop, .as (.sl I) (.o .i), .as I .i]), (14, [.as I .i, .as (.sl I) .i, .as (.clo 125 0 (.pair (.ptr (.sl (.sl .bool))) .unit)) .i, .drop, .drop, .drop, .drop, .as (.sl I) (.o .i), .as I .i, .as .bool .i, .drop, .drop, .drop, .drop, .drop, .drop, .drop, .drop, .as (.sl I) .i, .as I .i, .as I .i]), (27, [.drop, .drop, .drop, .drop, .drop, .drop, .drop, .as (.sl I) (.o .i)]), (23, [.as I .i, .as (.sl I) .i, .as (.clo 125 0 (.pair (.ptr (.sl (.sl .bool))) .unit)) .i, .drop, .drop, .drop, .drop, .as (.sl I) (.o .i), .as I .i, .as .bool .i])]
def impl_polar_k_columnPolar_c1_R3 (cd : Code) (N n : Nat) (K : Ex → St → Option ((List Int) × Unit)) (n0 : Int) (set1 : (List Int)) (cell2 : ((List (List Bool)) × Unit)) (list7 : (List Int)) (y8 : Int) : Option ((List Int) × Unit) := iter ((A_impl_polar_k_columnPolar_c1).shape 6) (run (A_impl_polar_k_columnPolar_c1) N cd) n ([.val I .i n0, .val (.sl I) .i set1, .val (.clo 125 0 (.pair (.ptr (.sl (.sl .bool))) .unit)) .i cell2, .u, .u, .u, .u, .val (.sl I) (.o .i) list7, .val I .i y8] ++ List.replicate 29 .u) K
def impl_polar_k_columnPolar_c1_R7 (cd : Code) (N n : Nat) (K : Ex → St → Option ((List Int) × Unit)) (n0 : Int) (set1 : (List Int)) (cell2 : ((List (List Bool)) × Unit)) (list7 : (List Int)) (y8 : Int) (all9 : Bool) (t18 : (List Int)) (t19 : Int) (t20 : Int) : Option ((List Int) × Unit) := iter ((A_impl_polar_k_columnPolar_c1).shape 14) (run (A_impl_polar_k_columnPolar_c1) N cd) n ([.val I .i n0, .val (.sl I) .i set1, .val (.clo 125 0 (.pair (.ptr (.sl (.sl .bool))) .unit)) .i cell2, .u, .u, .u, .u, .val (.sl I) (.o .i) list7, .val I .i y8, .val .bool .i all9, .u, .u, .u, .u, .u, .u, .u, .u, .val (.sl I) .i t18, .val I .i t19, .val I .i t20] ++ List.replicate 17 .u) K
theorem impl_polar_k_columnPolar_c1_step7 (N : Nat) (m : Nat) (kX : St → Option ((List Int) × Unit)) (kO : Nat → St → Option ((List Int) × Unit)) (n0 : Int) (set1 : (List Int)) (cell2 : ((List (List Bool)) × Unit)) (list7 : (List Int)) (y8 : Int) (all9 : Bool) (t18 : (List Int)) (t19 : Int) (t20 : Int) : impl_polar_k_columnPolar_c1_R7 (codeAt Try.f74 [1, 1, 0, 1, 0, 0, 1, 0, 0, 1, 0, 1, 0, 0]) N (m + 1) (exK (finish (A_impl_polar_k_columnPolar_c1) S_impl_polar_k_columnPolar_c1 Try.f74.results.toList) 2 ((A_impl_polar_k_columnPolar_c1).shape 23) kX kO) n0 set1 cell2 list7 y8 all9 t18 t19 t20 = impl_polar_k_columnPolar_c1_b7 (impl_polar_k_columnPolar_c1_R7 (codeAt Try.f74 [1, 1, 0, 1, 0, 0, 1, 0, 0, 1, 0, 1, 0, 0]) N m (exK (finish (A_impl_polar_k_columnPolar_c1) S_impl_polar_k_columnPolar_c1 Try.f74.results.toList) 2 ((A_impl_polar_k_columnPolar_c1).shape 23) kX kO)) (fun (n0 : Int) (set1 : (List Int)) (cell2 : ((List (List Bool)) × Unit)) (list7 : (List Int)) (y8 : Int) (all9 : Bool) => kX ([.val I .i n0, .val (.sl I) .i set1, .val (.clo 125 0 (.pair (.ptr (.sl (.sl .bool))) .unit)) .i cell2, .u, .u, .u, .u, .val (.sl I) (.o .i) list7, .val I .i y8, .val .bool .i all9] ++ List.replicate 28 .u)) n0 set1 cell2 list7 y8 all9 t18 t19 t20 := by kernel_rfl
theorem impl_polar_k_columnPolar_c1_iter7 (N : Nat) (kX : St → Option ((List Int) × Unit)) (kO : Nat → St → Option ((List Int) × Unit)) : ∀ (n : Nat) (n0 : Int) (set1 : (List Int)) (cell2 : ((List (List Bool)) × Unit)) (list7 : (List Int)) (y8 : Int) (all9 : Bool) (t18 : (List Int)) (t19 : Int) (t20 : Int), impl_polar_k_columnPolar_c1_R7 (codeAt Try.f74 [1, 1, 0, 1, 0, 0, 1, 0, 0, 1, 0, 1, 0, 0]) N n (exK (finish (A_impl_polar_k_columnPolar_c1) S_impl_polar_k_columnPolar_c1 Try.f74.results.toList) 2 ((A_impl_polar_k_columnPolar_c1).shape 23) kX kO) n0 set1 cell2 list7 y8 all9 t18 t19 t20 = impl_polar_k_columnPolar_c1_l7 N (fun (n0 : Int) (set1 : (List Int)) (cell2 : ((List (List Bool)) × Unit)) (list7 : (List Int)) (y8 : Int) (all9 : Bool) => kX ([.val I .i n0, .val (.sl I) .i set1, .val (.clo 125 0 (.pair (.ptr (.sl (.sl .bool))) .unit)) .i cell2, .u, .u, .u, .u, .val (.sl I) (.o .i) list7, .val I .i y8, .val .bool .i all9] ++ List.replicate 28 .u)) n n0 set1 cell2 list7 y8 all9 t18 t19 t20
  | 0, _, _, _, _, _, _, _, _, _ => rfl
  | m + 1, n0, set1, cell2, list7, y8, all9, t18, t19, t20 => by
    have hrec : impl_polar_k_columnPolar_c1_R7 (codeAt Try.f74 [1, 1, 0, 1, 0, 0, 1, 0, 0, 1, 0, 1, 0, 0]) N m (exK (finish (A_impl_polar_k_columnPolar_c1) S_impl_polar_k_columnPolar_c1 Try.f74.results.toList) 2 ((A_impl_polar_k_columnPolar_c1).shape 23) kX kO) = (impl_polar_k_columnPolar_c1_l7 N (fun (n0 : Int) (set1 : (List Int)) (cell2 : ((List (List Bool)) × Unit)) (list7 : (List Int)) (y8 : Int) (all9 : Bool) => kX ([.val I .i n0, .val (.sl I) .i set1, .val (.clo 125 0 (.pair (.ptr (.sl (.sl .bool))) .unit)) .i cell2, .u, .u, .u, .u, .val (.sl I) (.o .i) list7, .val I .i y8, .val .bool .i all9] ++ List.replicate 28 .u)) m) := (funext fun n0 => (funext fun set1 => (funext fun cell2 => (funext fun list7 => (funext fun y8 => (funext fun all9 => (funext fun t18 => (funext fun t19 => (funext fun t20 => impl_polar_k_columnPolar_c1_iter7 N kX kO m n0 set1 cell2 list7 y8 all9 t18 t19 t20)))))))))
    refine (impl_polar_k_columnPolar_c1_step7 N m kX kO n0 set1 cell2 list7 y8 all9 t18 t19 t20).trans ?_
    rw [hrec]
    rfl
theorem impl_polar_k_columnPolar_c1_after7 (N : Nat) (m : Nat) (kX : St → Option ((List Int) × Unit)) (kO : Nat → St → Option ((List Int) × Unit)) (n0 : Int) (set1 : (List Int)) (cell2 : ((List (List Bool)) × Unit)) (list7 : (List Int)) (y8 : Int) (all9 : Bool) : (fun st' => run (A_impl_polar_k_columnPolar_c1) N (codeAt Try.f74 [1, 1, 0, 1, 0, 0, 1, 0, 0, 1, 1]) st' (blockK 1 (seqK ((A_impl_polar_k_columnPolar_c1).shape 9) (run (A_impl_polar_k_columnPolar_c1) N (codeAt Try.f74 [1, 1, 0, 1, 0, 0, 1, 1])) (iterK ((A_impl_polar_k_columnPolar_c1).shape 6) (run (A_impl_polar_k_columnPolar_c1) N (codeAt Try.f74 [1, 1, 0, 1, 0, 0])) m (exK (finish (A_impl_polar_k_columnPolar_c1) S_impl_polar_k_columnPolar_c1 Try.f74.results.toList) 0 ((A_impl_polar_k_columnPolar_c1).shape 27) kX kO))))) ([.val I .i n0, .val (.sl I) .i set1, .val (.clo 125 0 (.pair (.ptr (.sl (.sl .bool))) .unit)) .i cell2, .u, .u, .u, .u, .val (.sl I) (.o .i) list7, .val I .i y8, .val .bool .i all9] ++ List.replicate 28 .u) = impl_polar_k_columnPolar_c1_a7 (impl_polar_k_columnPolar_c1_R3 (codeAt Try.f74 [1, 1, 0, 1, 0, 0]) N m (exK (finish (A_impl_polar_k_columnPolar_c1) S_impl_polar_k_columnPolar_c1 Try.f74.results.toList) 0 ((A_impl_polar_k_columnPolar_c1).shape 27) kX kO)) n0 set1 cell2 list7 y8 all9 := by kernel_rfl
theorem impl_polar_k_columnPolar_c1_in7 (N : Nat) (m : Nat) (kX : St → Option ((List Int) × Unit)) (kO : Nat → St → Option ((List Int) × Unit)) (recF : Int → (List Int) → ((List (List Bool)) × Unit) → (List Int) → Int → Option ((List Int) × Unit)) (hrec : impl_polar_k_columnPolar_c1_R3 (codeAt Try.f74 [1, 1, 0, 1, 0, 0]) N m (exK (finish (A_impl_polar_k_columnPolar_c1) S_impl_polar_k_columnPolar_c1 Try.f74.results.toList) 0 ((A_impl_polar_k_columnPolar_c1).shape 27) kX kO) = recF) (n0 : Int) (set1 : (List Int)) (cell2 : ((List (List Bool)) × Unit)) (list7 : (List Int)) (y8 : Int) (all9 : Bool) (t18 : (List Int)) (t19 : Int) (t20 : Int) : impl_polar_k_columnPolar_c1_R7 (codeAt Try.f74 [1, 1, 0, 1, 0, 0, 1, 0, 0, 1, 0, 1, 0, 0]) N N (blockK 2 (seqK ((A_impl_polar_k_columnPolar_c1).shape 23) (run (A_impl_polar_k_columnPolar_c1) N (codeAt Try.f74 [1, 1, 0, 1, 0, 0, 1, 0, 0, 1, 1])) (blockK 1 (seqK ((A_impl_polar_k_columnPolar_c1).shape 9) (run (A_impl_polar_k_columnPolar_c1) N (codeAt Try.f74 [1, 1, 0, 1, 0, 0, 1, 1])) (iterK ((A_impl_polar_k_columnPolar_c1).shape 6) (run (A_impl_polar_k_columnPolar_c1) N (codeAt Try.f74 [1, 1, 0, 1, 0, 0])) m (exK (finish (A_impl_polar_k_columnPolar_c1) S_impl_polar_k_columnPolar_c1 Try.f74.results.toList) 0 ((A_impl_polar_k_columnPolar_c1).shape 27) kX kO)))))) n0 set1 cell2 list7 y8 all9 t18 t19 t20 = impl_polar_k_columnPolar_c1_F7 N recF (fun (list7 : (List Int)) => kX ([.u, .u, .u, .u, .u, .u, .u, .val (.sl I) (.o .i) list7] ++ List.replicate 30 .u)) n0 set1 cell2 list7 y8 all9 t18 t19 t20 :=
  have h : (fun (n0 : Int) (set1 : (List Int)) (cell2 : ((List (List Bool)) × Unit)) (list7 : (List Int)) (y8 : Int) (all9 : Bool) => (fun st' => run (A_impl_polar_k_columnPolar_c1) N (codeAt Try.f74 [1, 1, 0, 1, 0, 0, 1, 0, 0, 1, 1]) st' (blockK 1 (seqK ((A_impl_polar_k_columnPolar_c1).shape 9) (run (A_impl_polar_k_columnPolar_c1) N (codeAt Try.f74 [1, 1, 0, 1, 0, 0, 1, 1])) (iterK ((A_impl_polar_k_columnPolar_c1).shape 6) (run (A_impl_polar_k_columnPolar_c1) N (codeAt Try.f74 [1, 1, 0, 1, 0, 0])) m (exK (finish (A_impl_polar_k_columnPolar_c1) S_impl_polar_k_columnPolar_c1 Try.f74.results.toList) 0 ((A_impl_polar_k_columnPolar_c1).shape 27) kX kO))))) ([.val I .i n0, .val (.sl I) .i set1, .val (.clo 125 0 (.pair (.ptr (.sl (.sl .bool))) .unit)) .i cell2, .u, .u, .u, .u, .val (.sl I) (.o .i) list7, .val I .i y8, .val .bool .i all9] ++ List.replicate 28 .u)) = (impl_polar_k_columnPolar_c1_a7 recF) := (funext fun n0 => (funext fun set1 => (funext fun cell2 => (funext fun list7 => (funext fun y8 => (funext fun all9 => (impl_polar_k_columnPolar_c1_after7 N m kX kO n0 set1 cell2 list7 y8 all9).trans (by rw [hrec])))))))
  have e : impl_polar_k_columnPolar_c1_R7 (codeAt Try.f74 [1, 1, 0, 1, 0, 0, 1, 0, 0, 1, 0, 1, 0, 0]) N N (blockK 2 (seqK ((A_impl_polar_k_columnPolar_c1).shape 23) (run (A_impl_polar_k_columnPolar_c1) N (codeAt Try.f74 [1, 1, 0, 1, 0, 0, 1, 0, 0, 1, 1])) (blockK 1 (seqK ((A_impl_polar_k_columnPolar_c1).shape 9) (run (A_impl_polar_k_columnPolar_c1) N (codeAt Try.f74 [1, 1, 0, 1, 0, 0, 1, 1])) (iterK ((A_impl_polar_k_columnPolar_c1).shape 6) (run (A_impl_polar_k_columnPolar_c1) N (codeAt Try.f74 [1, 1, 0, 1, 0, 0])) m (exK (finish (A_impl_polar_k_columnPolar_c1) S_impl_polar_k_columnPolar_c1 Try.f74.results.toList) 0 ((A_impl_polar_k_columnPolar_c1).shape 27) kX kO)))))) n0 set1 cell2 list7 y8 all9 t18 t19 t20 = impl_polar_k_columnPolar_c1_R7 (codeAt Try.f74 [1, 1, 0, 1, 0, 0, 1, 0, 0, 1, 0, 1, 0, 0]) N N (exK (finish (A_impl_polar_k_columnPolar_c1) S_impl_polar_k_columnPolar_c1 Try.f74.results.toList) 2 ((A_impl_polar_k_columnPolar_c1).shape 23) (fun st' => run (A_impl_polar_k_columnPolar_c1) N (codeAt Try.f74 [1, 1, 0, 1, 0, 0, 1, 0, 0, 1, 1]) st' (blockK 1 (seqK ((A_impl_polar_k_columnPolar_c1).shape 9) (run (A_impl_polar_k_columnPolar_c1) N (codeAt Try.f74 [1, 1, 0, 1, 0, 0, 1, 1])) (iterK ((A_impl_polar_k_columnPolar_c1).shape 6) (run (A_impl_polar_k_columnPolar_c1) N (codeAt Try.f74 [1, 1, 0, 1, 0, 0])) m (exK (finish (A_impl_polar_k_columnPolar_c1) S_impl_polar_k_columnPolar_c1 Try.f74.results.toList) 0 ((A_impl_polar_k_columnPolar_c1).shape 27) kX kO))))) (fun j st => (blockK 2 (seqK ((A_impl_polar_k_columnPolar_c1).shape 23) (run (A_impl_polar_k_columnPolar_c1) N (codeAt Try.f74 [1, 1, 0, 1, 0, 0, 1, 0, 0, 1, 1])) (blockK 1 (seqK ((A_impl_polar_k_columnPolar_c1).shape 9) (run (A_impl_polar_k_columnPolar_c1) N (codeAt Try.f74 [1, 1, 0, 1, 0, 0, 1, 1])) (iterK ((A_impl_polar_k_columnPolar_c1).shape 6) (run (A_impl_polar_k_columnPolar_c1) N (codeAt Try.f74 [1, 1, 0, 1, 0, 0])) m (exK (finish (A_impl_polar_k_columnPolar_c1) S_impl_polar_k_columnPolar_c1 Try.f74.results.toList) 0 ((A_impl_polar_k_columnPolar_c1).shape 27) kX kO)))))) (.exit j) st)) n0 set1 cell2 list7 y8 all9 t18 t19 t20 := iter_ex (fun st => by kernel_rfl) (fun st => by kernel_rfl)
  (e.trans (impl_polar_k_columnPolar_c1_iter7 N (fun st' => run (A_impl_polar_k_columnPolar_c1) N (codeAt Try.f74 [1, 1, 0, 1, 0, 0, 1, 0, 0, 1, 1]) st' (blockK 1 (seqK ((A_impl_polar_k_columnPolar_c1).shape 9) (run (A_impl_polar_k_columnPolar_c1) N (codeAt Try.f74 [1, 1, 0, 1, 0, 0, 1, 1])) (iterK ((A_impl_polar_k_columnPolar_c1).shape 6) (run (A_impl_polar_k_columnPolar_c1) N (codeAt Try.f74 [1, 1, 0, 1, 0, 0])) m (exK (finish (A_impl_polar_k_columnPolar_c1) S_impl_polar_k_columnPolar_c1 Try.f74.results.toList) 0 ((A_impl_polar_k_columnPolar_c1).shape 27) kX kO))))) (fun j st => (blockK 2 (seqK ((A_impl_polar_k_columnPolar_c1).shape 23) (run (A_impl_polar_k_columnPolar_c1) N (codeAt Try.f74 [1, 1, 0, 1, 0, 0, 1, 0, 0, 1, 1])) (blockK 1 (seqK ((A_impl_polar_k_columnPolar_c1).shape 9) (run (A_impl_polar_k_columnPolar_c1) N (codeAt Try.f74 [1, 1, 0, 1, 0, 0, 1, 1])) (iterK ((A_impl_polar_k_columnPolar_c1).shape 6) (run (A_impl_polar_k_columnPolar_c1) N (codeAt Try.f74 [1, 1, 0, 1, 0, 0])) m (exK (finish (A_impl_polar_k_columnPolar_c1) S_impl_polar_k_columnPolar_c1 Try.f74.results.toList) 0 ((A_impl_polar_k_columnPolar_c1).shape 27) kX kO)))))) (.exit j) st) N n0 set1 cell2 list7 y8 all9 t18 t19 t20)).trans (congrArg (fun k => impl_polar_k_columnPolar_c1_l7 N k N n0 set1 cell2 list7 y8 all9 t18 t19 t20) h)
theorem impl_polar_k_columnPolar_c1_step3 (N : Nat) (m : Nat) (kX : St → Option ((List Int) × Unit)) (kO : Nat → St → Option ((List Int) × Unit)) (n0 : Int) (set1 : (List Int)) (cell2 : ((List (List Bool)) × Unit)) (list7 : (List Int)) (y8 : Int) : impl_polar_k_columnPolar_c1_R3 (codeAt Try.f74 [1, 1, 0, 1, 0, 0]) N (m + 1) (exK (finish (A_impl_polar_k_columnPolar_c1) S_impl_polar_k_columnPolar_c1 Try.f74.results.toList) 0 ((A_impl_polar_k_columnPolar_c1).shape 27) kX kO) n0 set1 cell2 list7 y8 = impl_polar_k_columnPolar_c1_b3 (impl_polar_k_columnPolar_c1_R7 (codeAt Try.f74 [1, 1, 0, 1, 0, 0, 1, 0, 0, 1, 0, 1, 0, 0]) N N (blockK 2 (seqK ((A_impl_polar_k_columnPolar_c1).shape 23) (run (A_impl_polar_k_columnPolar_c1) N (codeAt Try.f74 [1, 1, 0, 1, 0, 0, 1, 0, 0, 1, 1])) (blockK 1 (seqK ((A_impl_polar_k_columnPolar_c1).shape 9) (run (A_impl_polar_k_columnPolar_c1) N (codeAt Try.f74 [1, 1, 0, 1, 0, 0, 1, 1])) (iterK ((A_impl_polar_k_columnPolar_c1).shape 6) (run (A_impl_polar_k_columnPolar_c1) N (codeAt Try.f74 [1, 1, 0, 1, 0, 0])) m (exK (finish (A_impl_polar_k_columnPolar_c1) S_impl_polar_k_columnPolar_c1 Try.f74.results.toList) 0 ((A_impl_polar_k_columnPolar_c1).shape 27) kX kO))))))) (fun (list7 : (List Int)) => kX ([.u, .u, .u, .u, .u, .u, .u, .val (.sl I) (.o .i) list7] ++ List.replicate 30 .u)) n0 set1 cell2 list7 y8 := by kernel_rfl
theorem impl_polar_k_columnPolar_c1_iter3 (N : Nat) (kX : St → Option ((List Int) × Unit)) (kO : Nat → St → Option ((List Int) × Unit)) : ∀ (n : Nat) (n0 : Int) (set1 : (List Int)) (cell2 : ((List (List Bool)) × Unit)) (list7 : (List Int)) (y8 : Int), impl_polar_k_columnPolar_c1_R3 (codeAt Try.f74 [1, 1, 0, 1, 0, 0]) N n (exK (finish (A_impl_polar_k_columnPolar_c1) S_impl_polar_k_columnPolar_c1 Try.f74.results.toList) 0 ((A_impl_polar_k_columnPolar_c1).shape 27) kX kO) n0 set1 cell2 list7 y8 = impl_polar_k_columnPolar_c1_l3 N (fun (list7 : (List Int)) => kX ([.u, .u, .u, .u, .u, .u, .u, .val (.sl I) (.o .i) list7] ++ List.replicate 30 .u)) n n0 set1 cell2 list7 y8
  | 0, _, _, _, _, _ => rfl
  | m + 1, n0, set1, cell2, list7, y8 => by
    have hrec : impl_polar_k_columnPolar_c1_R3 (codeAt Try.f74 [1, 1, 0, 1, 0, 0]) N m (exK (finish (A_impl_polar_k_columnPolar_c1) S_impl_polar_k_columnPolar_c1 Try.f74.results.toList) 0 ((A_impl_polar_k_columnPolar_c1).shape 27) kX kO) = (impl_polar_k_columnPolar_c1_l3 N (fun (list7 : (List Int)) => kX ([.u, .u, .u, .u, .u, .u, .u, .val (.sl I) (.o .i) list7] ++ List.replicate 30 .u)) m) := (funext fun n0 => (funext fun set1 => (funext fun cell2 => (funext fun list7 => (funext fun y8 => impl_polar_k_columnPolar_c1_iter3 N kX kO m n0 set1 cell2 list7 y8)))))
    refine (impl_polar_k_columnPolar_c1_step3 N m kX kO n0 set1 cell2 list7 y8).trans ?_
    rw [(funext fun n0 => (funext fun set1 => (funext fun cell2 => (funext fun list7 => (funext fun y8 => (funext fun all9 => (funext fun t18 => (funext fun t19 => (funext fun t20 => impl_polar_k_columnPolar_c1_in7 N m kX kO (impl_polar_k_columnPolar_c1_l3 N (fun (list7 : (List Int)) => kX ([.u, .u, .u, .u, .u, .u, .u, .val (.sl I) (.o .i) list7] ++ List.replicate 30 .u)) m) hrec n0 set1 cell2 list7 y8 all9 t18 t19 t20)))))))))]
    rfl
theorem impl_polar_k_columnPolar_c1_after3 (N : Nat) (list7 : (List Int)) : (fun st' => run (A_impl_polar_k_columnPolar_c1) N (codeAt Try.f74 [1, 1, 1]) st' (finish (A_impl_polar_k_columnPolar_c1) S_impl_polar_k_columnPolar_c1 Try.f74.results.toList)) ([.u, .u, .u, .u, .u, .u, .u, .val (.sl I) (.o .i) list7] ++ List.replicate 30 .u) = impl_polar_k_columnPolar_c1_a3 list7 := by kernel_rfl
theorem impl_polar_k_columnPolar_c1_in3 (N : Nat) (n0 : Int) (set1 : (List Int)) (cell2 : ((List (List Bool)) × Unit)) (list7 : (List Int)) (y8 : Int) : impl_polar_k_columnPolar_c1_R3 (codeAt Try.f74 [1, 1, 0, 1, 0, 0]) N N (blockK 0 (seqK ((A_impl_polar_k_columnPolar_c1).shape 27) (run (A_impl_polar_k_columnPolar_c1) N (codeAt Try.f74 [1, 1, 1])) (finish (A_impl_polar_k_columnPolar_c1) S_impl_polar_k_columnPolar_c1 Try.f74.results.toList))) n0 set1 cell2 list7 y8 = impl_polar_k_columnPolar_c1_F3 N n0 set1 cell2 list7 y8 :=
  have h : (fun (list7 : (List Int)) => (fun st' => run (A_impl_polar_k_columnPolar_c1) N (codeAt Try.f74 [1, 1, 1]) st' (finish (A_impl_polar_k_columnPolar_c1) S_impl_polar_k_columnPolar_c1 Try.f74.results.toList)) ([.u, .u, .u, .u, .u, .u, .u, .val (.sl I) (.o .i) list7] ++ List.replicate 30 .u)) = (impl_polar_k_columnPolar_c1_a3) := (funext fun list7 => impl_polar_k_columnPolar_c1_after3 N list7)
  have e : impl_polar_k_columnPolar_c1_R3 (codeAt Try.f74 [1, 1, 0, 1, 0, 0]) N N (blockK 0 (seqK ((A_impl_polar_k_columnPolar_c1).shape 27) (run (A_impl_polar_k_columnPolar_c1) N (codeAt Try.f74 [1, 1, 1])) (finish (A_impl_polar_k_columnPolar_c1) S_impl_polar_k_columnPolar_c1 Try.f74.results.toList))) n0 set1 cell2 list7 y8 = impl_polar_k_columnPolar_c1_R3 (codeAt Try.f74 [1, 1, 0, 1, 0, 0]) N N (exK (finish (A_impl_polar_k_columnPolar_c1) S_impl_polar_k_columnPolar_c1 Try.f74.results.toList) 0 ((A_impl_polar_k_columnPolar_c1).shape 27) (fun st' => run (A_impl_polar_k_columnPolar_c1) N (codeAt Try.f74 [1, 1, 1]) st' (finish (A_impl_polar_k_columnPolar_c1) S_impl_polar_k_columnPolar_c1 Try.f74.results.toList)) (fun j st => (blockK 0 (seqK ((A_impl_polar_k_columnPolar_c1).shape 27) (run (A_impl_polar_k_columnPolar_c1) N (codeAt Try.f74 [1, 1, 1])) (finish (A_impl_polar_k_columnPolar_c1) S_impl_polar_k_columnPolar_c1 Try.f74.results.toList))) (.exit j) st)) n0 set1 cell2 list7 y8 := iter_ex (fun st => by kernel_rfl) (fun st => by kernel_rfl)
  (e.trans (impl_polar_k_columnPolar_c1_iter3 N (fun st' => run (A_impl_polar_k_columnPolar_c1) N (codeAt Try.f74 [1, 1, 1]) st' (finish (A_impl_polar_k_columnPolar_c1) S_impl_polar_k_columnPolar_c1 Try.f74.results.toList)) (fun j st => (blockK 0 (seqK ((A_impl_polar_k_columnPolar_c1).shape 27) (run (A_impl_polar_k_columnPolar_c1) N (codeAt Try.f74 [1, 1, 1])) (finish (A_impl_polar_k_columnPolar_c1) S_impl_polar_k_columnPolar_c1 Try.f74.results.toList))) (.exit j) st) N n0 set1 cell2 list7 y8)).trans (congrArg (fun k => impl_polar_k_columnPolar_c1_l3 N k N n0 set1 cell2 list7 y8) h)
theorem run0_impl_polar_k_columnPolar_c1 (N : Nat) (x : (S_impl_polar_k_columnPolar_c1).a.den) : runF (A_impl_polar_k_columnPolar_c1) N Try.f74 S_impl_polar_k_columnPolar_c1 x = (impl_polar_k_columnPolar_c1_s (impl_polar_k_columnPolar_c1_R3 (codeAt Try.f74 [1, 1, 0, 1, 0, 0]) N N (blockK 0 (seqK ((A_impl_polar_k_columnPolar_c1).shape 27) (run (A_impl_polar_k_columnPolar_c1) N (codeAt Try.f74 [1, 1, 1])) (finish (A_impl_polar_k_columnPolar_c1) S_impl_polar_k_columnPolar_c1 Try.f74.results.toList)))) x.1 x.2.1 x.2.2.1) := by kernel_rfl
theorem run_impl_polar_k_columnPolar_c1 (N : Nat) (x : (S_impl_polar_k_columnPolar_c1).a.den) : runF (A_impl_polar_k_columnPolar_c1) N Try.f74 S_impl_polar_k_columnPolar_c1 x = impl_polar_k_columnPolar_c1 N x.1 x.2.1 x.2.2.1 := by
  refine (run0_impl_polar_k_columnPolar_c1 N x).trans ?_
  rw [(funext fun n0 => (funext fun set1 => (funext fun cell2 => (funext fun list7 => (funext fun y8 => impl_polar_k_columnPolar_c1_in3 N n0 set1 cell2 list7 y8)))))]
  rfl
theorem fn_impl_polar_k_columnPolar_c1 : FnOk Try.prog 74 := ⟨_, Try.func74, by kernel_rfl, by kernel_rfl⟩
theorem good_impl_polar_k_columnPolar_c1 : Gx.Good Try.prog 74 S_impl_polar_k_columnPolar_c1 := good_of_run Try.func74 (of_decide_eq_true (by kernel_rfl)) fun x r h => ⟨A_impl_polar_k_columnPolar_c1, big, mkCfg_ok tabOk, mkCfg_sigs (show SigsOk Try.prog [(125, S_impl_columnPolar_c1)] from ⟨⟨fn_impl_columnPolar_c1, good_impl_columnPolar_c1⟩, trivial⟩), (run_impl_polar_k_columnPolar_c1 big x).trans h⟩

/-! impl_columnPolar -/
def impl_columnPolar_s (cells_0 : (List (List Bool))) (columns_1 : (List Int)) : Option ((List Int) × Unit) :=
  (impl_polar_k_columnPolar_c1 big (cells_0.length : Int) columns_1 (cells_0, ())).bind fun rq1 =>
  some (rq1.1, (()))
def impl_columnPolar (cells_0 : (List (List Bool))) (columns_1 : (List Int)) : Option ((List Int) × Unit) := impl_columnPolar_s cells_0 columns_1
def S_impl_columnPolar : Sig := { a := (.pair (.sl (.sl .bool)) (.pair (.sl I) .unit)), md := [0, 0], mf := [], m := .unit, r := (.sl I), rf := (.o .i), f := fun x => impl_columnPolar x.1 x.2.1 }
def A_impl_columnPolar : Cfg := mkCfg tab [(74, S_impl_polar_k_columnPolar_c1)] [(3, [.drop, .as (.sl I) .i, .as (.ptr (.sl (.sl .bool))) .i])]
theorem run_impl_columnPolar (N : Nat) (x : (S_impl_columnPolar).a.den) : runF (A_impl_columnPolar) N Try.f81 S_impl_columnPolar x = impl_columnPolar x.1 x.2.1 := by kernel_rfl
theorem fn_impl_columnPolar : FnOk Try.prog 81 := ⟨_, Try.func81, by kernel_rfl, by kernel_rfl⟩
theorem good_impl_columnPolar : Gx.Good Try.prog 81 S_impl_columnPolar := good_of_run Try.func81 (of_decide_eq_true (by kernel_rfl)) fun x r h => ⟨A_impl_columnPolar, big, mkCfg_ok tabOk, mkCfg_sigs (show SigsOk Try.prog [(74, S_impl_polar_k_columnPolar_c1)] from ⟨⟨fn_impl_polar_k_columnPolar_c1, good_impl_polar_k_columnPolar_c1⟩, trivial⟩), (run_impl_columnPolar big x).trans h⟩

/-! impl_ColumnPolar -/
def impl_ColumnPolar_s (cells_0 : (List (List Bool))) (columns_1 : (List Int)) : Option (((List Int) × (Bool × Unit)) × Unit) :=
  (impl_IsContext big cells_0).bind fun rq1 =>
  cond (!rq1.1)
  (some (([], false, ()), (())))
  ((impl_columnsOf cells_0).bind fun rq2 =>
  (impl_isSetOf rq2.1 columns_1).bind fun rq3 =>
  cond (!rq3.1)
  (some (([], false, ()), (())))
  ((impl_columnPolar cells_0 columns_1).bind fun rq4 =>
  some ((rq4.1, true, ()), (()))))
def impl_ColumnPolar (cells_0 : (List (List Bool))) (columns_1 : (List Int)) : Option (((List Int) × (Bool × Unit)) × Unit) := impl_ColumnPolar_s cells_0 columns_1
def S_impl_ColumnPolar : Sig := { a := (.pair (.sl (.sl .bool)) (.pair (.sl I) .unit)), md := [0, 0], mf := [], m := .unit, r := (.tup (.pair (.sl I) (.pair .bool .unit))), rf := (.p (.o .i) .i), f := fun x => impl_ColumnPolar x.1 x.2.1 }
def A_impl_ColumnPolar : Cfg := mkCfg tab [(72, S_impl_IsContext), (75, S_impl_columnsOf), (73, S_impl_isSetOf), (81, S_impl_columnPolar)] []
theorem run_impl_ColumnPolar (N : Nat) (x : (S_impl_ColumnPolar).a.den) : runF (A_impl_ColumnPolar) N Try.f38 S_impl_ColumnPolar x = impl_ColumnPolar x.1 x.2.1 := by kernel_rfl
theorem fn_impl_ColumnPolar : FnOk Try.prog 38 := ⟨_, Try.func38, by kernel_rfl, by kernel_rfl⟩
theorem good_impl_ColumnPolar : Gx.Good Try.prog 38 S_impl_ColumnPolar := good_of_run Try.func38 (of_decide_eq_true (by kernel_rfl)) fun x r h => ⟨A_impl_ColumnPolar, big, mkCfg_ok tabOk, mkCfg_sigs (show SigsOk Try.prog [(72, S_impl_IsContext), (75, S_impl_columnsOf), (73, S_impl_isSetOf), (81, S_impl_columnPolar)] from ⟨⟨fn_impl_IsContext, good_impl_IsContext⟩, ⟨fn_impl_columnsOf, good_impl_columnsOf⟩, ⟨fn_impl_isSetOf, good_impl_isSetOf⟩, ⟨fn_impl_columnPolar, good_impl_columnPolar⟩, trivial⟩), (run_impl_ColumnPolar big x).trans h⟩

/-! laws_FnExactColumnPolar -/
def laws_FnExactColumnPolar_s (aCells_0 : (List (List Bool))) (aColumns_1 : (List Int)) : Option (Bool × Unit) :=
  cond (decide ((1048576 : Int) < (aColumns_1.length : Int)))
  (some (true, (())))
  ((laws_szBoolSS big aCells_0 (1048576 : Int)).bind fun rq1 =>
  cond (decide (rq1.1 < (0 : Int)))
  (some (true, (())))
  ((laws_toBoolSS big aCells_0).bind fun rq2 =>
  (laws_toIntS big aColumns_1).bind fun rq3 =>
  (spec_ColumnPolar rq2.1 rq3.1).bind fun rq4 =>
  (laws_toBoolSS big aCells_0).bind fun rq5 =>
  (laws_toIntS big aColumns_1).bind fun rq6 =>
  (impl_ColumnPolar rq5.1 rq6.1).bind fun rq7 =>
  (laws_eqIntS big rq7.1.1 rq4.1.1).bind fun rq8 =>
  cond (!rq8.1)
  (some (false, (())))
  (cond (((((), rq7.1.2).2).1) != ((((), rq4.1.2).2).1))
  (some (false, (())))
  ((laws_toBoolSS big aCells_0).bind fun rq9 =>
  (laws_eqBoolSS big rq5.1 rq9.1).bind fun rq10 =>
  cond (!rq10.1)
  (some (false, (())))
  ((laws_toIntS big aColumns_1).bind fun rq11 =>
  (laws_eqIntS big rq6.1 rq11.1).bind fun rq12 =>
  cond (!rq12.1)
  (some (false, (())))
  ((laws_markBoolSS big rq5.1 (1 : Int)).bind fun rq13 =>
  (laws_markIntS big rq6.1 rq13.1).bind fun rq14 =>
  cond (decide (rq14.1 < (0 : Int)))
  (some (false, (())))
  ((laws_eqIntS big rq7.1.1 rq4.1.1).bind fun rq15 =>
  cond (!rq15.1)
  (some (false, (())))
  (cond (((((), rq7.1.2).2).1) != ((((), rq4.1.2).2).1))
  (some (false, (())))
  ((laws_markIntS big rq7.1.1 (1 : Int)).bind fun rq16 =>
  (laws_heldIntS big rq16.2.1 (1 : Int)).bind fun rq17 =>
  cond (decide (rq17.1 < (0 : Int)))
  (some (false, (())))
  (cond (decide (rq17.1 ≠ rq16.1))
  (some (false, (())))
  ((laws_toBoolSS big aCells_0).bind fun rq18 =>
  (laws_toIntS big aColumns_1).bind fun rq19 =>
  (impl_ColumnPolar rq18.1 rq19.1).bind fun rq20 =>
  (laws_eqIntS big rq20.1.1 rq4.1.1).bind fun rq21 =>
  cond (!rq21.1)
  (some (false, (())))
  (cond (((((), rq20.1.2).2).1) != ((((), rq4.1.2).2).1))
  (some (false, (())))
  ((laws_heldIntS big rq16.2.1 (1 : Int)).bind fun rq22 =>
  cond (decide (rq22.1 < (0 : Int)))
  (some (false, (())))
  (cond (decide (rq22.1 ≠ rq16.1))
  (some (false, (())))
  (some (true, (())))))))))))))))))
def laws_FnExactColumnPolar (aCells_0 : (List (List Bool))) (aColumns_1 : (List Int)) : Option (Bool × Unit) := laws_FnExactColumnPolar_s aCells_0 aColumns_1
def S_laws_FnExactColumnPolar : Sig := { a := (.pair (.sl (.sl .bool)) (.pair (.sl I) .unit)), md := [0, 0], mf := [], m := .unit, r := .bool, rf := .i, f := fun x => laws_FnExactColumnPolar x.1 x.2.1 }
def A_laws_FnExactColumnPolar : Cfg := mkCfg tab [(30, S_laws_szBoolSS), (32, S_laws_toBoolSS), (16, S_laws_toIntS), (37, S_spec_ColumnPolar), (38, S_impl_ColumnPolar), (18, S_laws_eqIntS), (34, S_laws_eqBoolSS), (35, S_laws_markBoolSS), (27, S_laws_markIntS), (36, S_laws_heldIntS)] []
theorem run_laws_FnExactColumnPolar (N : Nat) (x : (S_laws_FnExactColumnPolar).a.den) : runF (A_laws_FnExactColumnPolar) N Try.f7 S_laws_FnExactColumnPolar x = laws_FnExactColumnPolar x.1 x.2.1 := by kernel_rfl
theorem fn_laws_FnExactColumnPolar : FnOk Try.prog 7 := ⟨_, Try.func7, by kernel_rfl, by kernel_rfl⟩
theorem good_laws_FnExactColumnPolar : Gx.Good Try.prog 7 S_laws_FnExactColumnPolar := good_of_run Try.func7 (of_decide_eq_true (by kernel_rfl)) fun x r h => ⟨A_laws_FnExactColumnPolar, big, mkCfg_ok tabOk, mkCfg_sigs (show SigsOk Try.prog [(30, S_laws_szBoolSS), (32, S_laws_toBoolSS), (16, S_laws_toIntS), (37, S_spec_ColumnPolar), (38, S_impl_ColumnPolar), (18, S_laws_eqIntS), (34, S_laws_eqBoolSS), (35, S_laws_markBoolSS), (27, S_laws_markIntS), (36, S_laws_heldIntS)] from ⟨⟨fn_laws_szBoolSS, good_laws_szBoolSS⟩, ⟨fn_laws_toBoolSS, good_laws_toBoolSS⟩, ⟨fn_laws_toIntS, good_laws_toIntS⟩, ⟨fn_spec_ColumnPolar, good_spec_ColumnPolar⟩, ⟨fn_impl_ColumnPolar, good_impl_ColumnPolar⟩, ⟨fn_laws_eqIntS, good_laws_eqIntS⟩, ⟨fn_laws_eqBoolSS, good_laws_eqBoolSS⟩, ⟨fn_laws_markBoolSS, good_laws_markBoolSS⟩, ⟨fn_laws_markIntS, good_laws_markIntS⟩, ⟨fn_laws_heldIntS, good_laws_heldIntS⟩, trivial⟩), (run_laws_FnExactColumnPolar big x).trans h⟩
end Go.Proofs.Ytbegnofapodldaa
