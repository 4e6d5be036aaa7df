import Derived.Test.YtmpeokbbmicdgaaGxBox
import Derived.Test.YtmpeokbbmicdgaaRows
import Derived.Test.YtmpeokbbmicdgaaChecked
import Derived.KernelRfl
set_option maxRecDepth 100000
set_option linter.unusedVariables false
namespace Go.Proofs.Ytmpeokbbmicdgaa
open Go Go.Gx Go.Proofs

abbrev I := Ty.int .i64
def tab : Tab := { es := [(22, I, .i)], ts := [(3, I, .i), (4, .bool, .i), (9, .str, .i), (22, (.sl I), (.o .i))], fs := [], ars := [] }
theorem tabOk : tab.chk Try.prog = true := by kernel_rfl

/-! laws_toIntS -/
def laws_toIntS_b3 (rec : (List Int) → (List Int) → Int → Option ((List Int) × Unit)) (k : (List Int) → Option ((List Int) × Unit)) (a0 : (List Int)) (out3 : (List Int)) (i4 : Int) : Option ((List Int) × Unit) :=
  cond (decide (i4 < (a0.length : Int)))
  ((atI a0 i4).bind fun xq3 =>
  (atI out3 i4).bind fun _ =>
  (out3[i4.toNat]?).bind fun xq4 =>
  rec a0 (out3.set i4.toNat xq3) (IntKind.i64.wrap (i4 + (1 : Int))))
  (k out3)
def laws_toIntS_a3 (out3 : (List Int)) : Option ((List Int) × Unit) :=
  some (out3, (()))
def laws_toIntS_s (L3 : (List Int) → (List Int) → Int → Option ((List Int) × Unit)) (a_0 : (List Int)) : Option ((List Int) × Unit) :=
  (mkI (0 : Int) (a_0.length : Int)).bind fun xq1 => (mkI (0 : Int) (a_0.length : Int)).bind fun xq2 => cond (decide ((a_0.length : Int) ≤ (a_0.length : Int)))
  (L3 a_0 xq2 (0 : Int))
  none
def laws_toIntS_l3 (N : Nat) (k : (List Int) → Option ((List Int) × Unit)) : Nat → (List Int) → (List Int) → Int → Option ((List Int) × Unit)
  | 0, _, _, _ => none
  | m + 1, a0, out3, i4 => laws_toIntS_b3 (laws_toIntS_l3 N k m) k a0 out3 i4
def laws_toIntS_F3 (N : Nat) (a0 : (List Int)) (out3 : (List Int)) (i4 : Int) : Option ((List Int) × Unit) := laws_toIntS_l3 N (laws_toIntS_a3) N a0 out3 i4
def laws_toIntS (N : Nat) (a_0 : (List Int)) : Option ((List Int) × Unit) := laws_toIntS_s (laws_toIntS_F3 N) a_0
def S_laws_toIntS : Sig := { a := (.pair (.sl I) .unit), md := [0], mf := [], m := .unit, r := (.sl I), rf := (.o .i), f := fun x => laws_toIntS big x.1 }
def A_laws_toIntS : Cfg := mkCfg tab [] [(6, [.as (.sl I) .i, .drop, .drop, .as (.sl I) (.o .i), .as I .i]), (13, [.drop, .drop, .drop, .as (.sl I) (.o .i)])]
noncomputable def laws_toIntS_R3 (N n : Nat) (K : Ex → St → Option ((List Int) × Unit)) (a0 : (List Int)) (out3 : (List Int)) (i4 : Int) : Option ((List Int) × Unit) := iter ((A_laws_toIntS).shape 6) (run (A_laws_toIntS) N (codeAt Try.f5 [1, 1, 0, 1, 0, 0])) n ([.val (.sl I) .i a0, .u, .u, .val (.sl I) (.o .i) out3, .val I .i i4] ++ List.replicate 17 .u) K
noncomputable abbrev laws_toIntS_z : Ex → St → Option ((List Int) × Unit) := finish (A_laws_toIntS) S_laws_toIntS Try.f5.results.toList
noncomputable abbrev laws_toIntS_X3 (kX : St → Option ((List Int) × Unit)) : (List Int) → Option ((List Int) × Unit) := fun (out3 : (List Int)) => kX ([.u, .u, .u, .val (.sl I) (.o .i) out3] ++ List.replicate 18 .u)
noncomputable abbrev laws_toIntS_E3 (kX : St → Option ((List Int) × Unit)) (kO : Nat → St → Option ((List Int) × Unit)) : Ex → St → Option ((List Int) × Unit) := exK laws_toIntS_z 0 ((A_laws_toIntS).shape 13) kX kO
theorem laws_toIntS_step3 (N : Nat) (m : Nat) (kX : St → Option ((List Int) × Unit)) (kO : Nat → St → Option ((List Int) × Unit)) (a0 : (List Int)) (out3 : (List Int)) (i4 : Int) : laws_toIntS_R3 N (m + 1) (laws_toIntS_E3 kX kO) a0 out3 i4 = laws_toIntS_b3 (laws_toIntS_R3 N m (laws_toIntS_E3 kX kO)) (laws_toIntS_X3 kX) a0 out3 i4 := by kernel_rfl
theorem laws_toIntS_iter3 (N : Nat) (kX : St → Option ((List Int) × Unit)) (kO : Nat → St → Option ((List Int) × Unit)) : ∀ (n : Nat) (a0 : (List Int)) (out3 : (List Int)) (i4 : Int), laws_toIntS_R3 N n (laws_toIntS_E3 kX kO) a0 out3 i4 = laws_toIntS_l3 N (laws_toIntS_X3 kX) n a0 out3 i4
  | 0, _, _, _ => rfl
  | m + 1, a0, out3, i4 => by
    have hrec : laws_toIntS_R3 N m (laws_toIntS_E3 kX kO) = (laws_toIntS_l3 N (laws_toIntS_X3 kX) m) := (funext fun a0 => (funext fun out3 => (funext fun i4 => laws_toIntS_iter3 N kX kO m a0 out3 i4)))
    refine (laws_toIntS_step3 N m kX kO a0 out3 i4).trans ?_
    rw [hrec]
    rfl
noncomputable abbrev laws_toIntS_K3 (N : Nat) : Ex → St → Option ((List Int) × Unit) := (blockK 0 (seqK ((A_laws_toIntS).shape 13) (run (A_laws_toIntS) N (codeAt Try.f5 [1, 1, 1])) laws_toIntS_z))
noncomputable abbrev laws_toIntS_k3 (N : Nat) : St → Option ((List Int) × Unit) := fun st' => run (A_laws_toIntS) N (codeAt Try.f5 [1, 1, 1]) st' laws_toIntS_z
theorem laws_toIntS_after3 (N : Nat) (out3 : (List Int)) : laws_toIntS_X3 (laws_toIntS_k3 N) out3 = laws_toIntS_a3 out3 := by kernel_rfl
theorem laws_toIntS_in3 (N : Nat) (a0 : (List Int)) (out3 : (List Int)) (i4 : Int) : laws_toIntS_R3 N N (laws_toIntS_K3 N) a0 out3 i4 = laws_toIntS_F3 N a0 out3 i4 :=
  have h : laws_toIntS_X3 (laws_toIntS_k3 N) = (laws_toIntS_a3) := (funext fun out3 => laws_toIntS_after3 N out3)
  ((iter_ex (fun st => by kernel_rfl) (fun st => by kernel_rfl)).trans (laws_toIntS_iter3 N (laws_toIntS_k3 N) (fun j st => (laws_toIntS_K3 N) (.exit j) st) N a0 out3 i4)).trans (congrArg (fun k => laws_toIntS_l3 N k N a0 out3 i4) h)
theorem run0_laws_toIntS (N : Nat) (x : (S_laws_toIntS).a.den) : runF (A_laws_toIntS) N Try.f5 S_laws_toIntS x = (laws_toIntS_s (laws_toIntS_R3 N N (laws_toIntS_K3 N)) x.1) := by kernel_rfl
theorem run_laws_toIntS (N : Nat) (x : (S_laws_toIntS).a.den) : runF (A_laws_toIntS) N Try.f5 S_laws_toIntS x = laws_toIntS N x.1 := by
  refine (run0_laws_toIntS N x).trans ?_
  rw [(funext fun a0 => (funext fun out3 => (funext fun i4 => laws_toIntS_in3 N a0 out3 i4)))]
  rfl
theorem fn_laws_toIntS : FnOk Try.prog 5 := ⟨_, Try.func5, by kernel_rfl, by kernel_rfl⟩
theorem good_laws_toIntS : Gx.Good Try.prog 5 S_laws_toIntS := good_of_run Try.func5 (of_decide_eq_true (by kernel_rfl)) fun x r h => ⟨A_laws_toIntS, big, mkCfg_ok tabOk, mkCfg_sigs (show SigsOk Try.prog [] from trivial), (run_laws_toIntS big x).trans h⟩

/-! spec_l1In -/
def spec_l1In_s (x_0 : Int) (a_1 : Int) (b_2 : Int) : Option (Bool × Unit) :=
  cond (decide (a_1 ≤ x_0))
  (some (decide (x_0 ≤ b_2), (())))
  (some (false, (())))
def spec_l1In (x_0 : Int) (a_1 : Int) (b_2 : Int) : Option (Bool × Unit) := spec_l1In_s x_0 a_1 b_2
def S_spec_l1In : Sig := { a := (.pair I (.pair I (.pair I .unit))), md := [0, 0, 0], mf := [], m := .unit, r := .bool, rf := .i, f := fun x => spec_l1In x.1 x.2.1 x.2.2.1 }
def A_spec_l1In : Cfg := mkCfg tab [] []
theorem run_spec_l1In (N : Nat) (x : (S_spec_l1In).a.den) : runF (A_spec_l1In) N Try.f17 S_spec_l1In x = spec_l1In x.1 x.2.1 x.2.2.1 := by kernel_rfl
theorem fn_spec_l1In : FnOk Try.prog 17 := ⟨_, Try.func17, by kernel_rfl, by kernel_rfl⟩
theorem good_spec_l1In : Gx.Good Try.prog 17 S_spec_l1In := good_of_run Try.func17 (of_decide_eq_true (by kernel_rfl)) fun x r h => ⟨A_spec_l1In, big, mkCfg_ok tabOk, mkCfg_sigs (show SigsOk Try.prog [] from trivial), (run_spec_l1In big x).trans h⟩

/-! spec_l28End -/
def spec_l28End_b3 (rec : (List Int) → Int → Int → Option (Int × Unit)) (k : Option (Int × Unit)) (w0 : (List Int)) (open5 : Int) (i6 : Int) : Option (Int × Unit) :=
  cond (decide (i6 < (w0.length : Int)))
  ((atI w0 i6).bind fun xq1 =>
  cond (decide (xq1 = (-1 : Int)))
  (cond (decide ((IntKind.i64.wrap (open5 + (1 : Int))) = (0 : Int)))
  (some (IntKind.i64.wrap (i6 + (1 : Int)), (())))
  (rec w0 (IntKind.i64.wrap (open5 + (1 : Int))) (IntKind.i64.wrap (i6 + (1 : Int)))))
  ((atI w0 i6).bind fun xq2 =>
  cond (decide (xq2 = (-2 : Int)))
  (cond (decide ((IntKind.i64.wrap (open5 + (1 : Int))) = (0 : Int)))
  (some (IntKind.i64.wrap (i6 + (1 : Int)), (())))
  (rec w0 (IntKind.i64.wrap (open5 + (1 : Int))) (IntKind.i64.wrap (i6 + (1 : Int)))))
  ((atI w0 i6).bind fun xq3 =>
  (spec_l1In xq3 (0 : Int) (4 : Int)).bind fun rq4 =>
  cond rq4.1
  (cond (decide ((IntKind.i64.wrap (open5 - (1 : Int))) = (0 : Int)))
  (some (IntKind.i64.wrap (i6 + (1 : Int)), (())))
  (rec w0 (IntKind.i64.wrap (open5 - (1 : Int))) (IntKind.i64.wrap (i6 + (1 : Int)))))
  (some ((-1 : Int), (()))))))
  (k)
def spec_l28End_a3 : Option (Int × Unit) :=
  some ((-1 : Int), (()))
def spec_l28End_s (L3 : (List Int) → Int → Int → Option (Int × Unit)) (w_0 : (List Int)) (from_1 : Int) : Option (Int × Unit) :=
  L3 w_0 (1 : Int) from_1
def spec_l28End_l3 (N : Nat) (k : Option (Int × Unit)) : Nat → (List Int) → Int → Int → Option (Int × Unit)
  | 0, _, _, _ => none
  | m + 1, w0, open5, i6 => spec_l28End_b3 (spec_l28End_l3 N k m) k w0 open5 i6
def spec_l28End_F3 (N : Nat) (w0 : (List Int)) (open5 : Int) (i6 : Int) : Option (Int × Unit) := spec_l28End_l3 N (spec_l28End_a3) N w0 open5 i6
def spec_l28End (N : Nat) (w_0 : (List Int)) (from_1 : Int) : Option (Int × Unit) := spec_l28End_s (spec_l28End_F3 N) w_0 from_1
def S_spec_l28End : Sig := { a := (.pair (.sl I) (.pair I .unit)), md := [0, 0], mf := [], m := .unit, r := I, rf := .i, f := fun x => spec_l28End big x.1 x.2.1 }
def A_spec_l28End : Cfg := mkCfg tab [(17, S_spec_l1In)] [(6, [.as (.sl I) .i, .drop, .drop, .drop, .drop, .as I .i, .as I .i]), (25, [])]
noncomputable def spec_l28End_R3 (N n : Nat) (K : Ex → St → Option (Int × Unit)) (w0 : (List Int)) (open5 : Int) (i6 : Int) : Option (Int × Unit) := iter ((A_spec_l28End).shape 6) (run (A_spec_l28End) N (codeAt Try.f12 [1, 1, 0, 1, 0, 0])) n ([.val (.sl I) .i w0, .u, .u, .u, .u, .val I .i open5, .val I .i i6] ++ List.replicate 34 .u) K
noncomputable abbrev spec_l28End_z : Ex → St → Option (Int × Unit) := finish (A_spec_l28End) S_spec_l28End Try.f12.results.toList
noncomputable abbrev spec_l28End_X3 (kX : St → Option (Int × Unit)) : Option (Int × Unit) := kX ([] ++ List.replicate 41 .u)
noncomputable abbrev spec_l28End_E3 (kX : St → Option (Int × Unit)) (kO : Nat → St → Option (Int × Unit)) : Ex → St → Option (Int × Unit) := exK spec_l28End_z 0 ((A_spec_l28End).shape 25) kX kO
theorem spec_l28End_step3 (N : Nat) (m : Nat) (kX : St → Option (Int × Unit)) (kO : Nat → St → Option (Int × Unit)) (w0 : (List Int)) (open5 : Int) (i6 : Int) : spec_l28End_R3 N (m + 1) (spec_l28End_E3 kX kO) w0 open5 i6 = spec_l28End_b3 (spec_l28End_R3 N m (spec_l28End_E3 kX kO)) (spec_l28End_X3 kX) w0 open5 i6 := by kernel_rfl
theorem spec_l28End_iter3 (N : Nat) (kX : St → Option (Int × Unit)) (kO : Nat → St → Option (Int × Unit)) : ∀ (n : Nat) (w0 : (List Int)) (open5 : Int) (i6 : Int), spec_l28End_R3 N n (spec_l28End_E3 kX kO) w0 open5 i6 = spec_l28End_l3 N (spec_l28End_X3 kX) n w0 open5 i6
  | 0, _, _, _ => rfl
  | m + 1, w0, open5, i6 => by
    have hrec : spec_l28End_R3 N m (spec_l28End_E3 kX kO) = (spec_l28End_l3 N (spec_l28End_X3 kX) m) := (funext fun w0 => (funext fun open5 => (funext fun i6 => spec_l28End_iter3 N kX kO m w0 open5 i6)))
    refine (spec_l28End_step3 N m kX kO w0 open5 i6).trans ?_
    rw [hrec]
    rfl
noncomputable abbrev spec_l28End_K3 (N : Nat) : Ex → St → Option (Int × Unit) := (blockK 0 (seqK ((A_spec_l28End).shape 25) (run (A_spec_l28End) N (codeAt Try.f12 [1, 1, 1])) spec_l28End_z))
noncomputable abbrev spec_l28End_k3 (N : Nat) : St → Option (Int × Unit) := fun st' => run (A_spec_l28End) N (codeAt Try.f12 [1, 1, 1]) st' spec_l28End_z
theorem spec_l28End_after3 (N : Nat) : spec_l28End_X3 (spec_l28End_k3 N) = spec_l28End_a3 := by kernel_rfl
theorem spec_l28End_in3 (N : Nat) (w0 : (List Int)) (open5 : Int) (i6 : Int) : spec_l28End_R3 N N (spec_l28End_K3 N) w0 open5 i6 = spec_l28End_F3 N w0 open5 i6 :=
  have h : spec_l28End_X3 (spec_l28End_k3 N) = (spec_l28End_a3) := spec_l28End_after3 N
  ((iter_ex (fun st => by kernel_rfl) (fun st => by kernel_rfl)).trans (spec_l28End_iter3 N (spec_l28End_k3 N) (fun j st => (spec_l28End_K3 N) (.exit j) st) N w0 open5 i6)).trans (congrArg (fun k => spec_l28End_l3 N k N w0 open5 i6) h)
theorem run0_spec_l28End (N : Nat) (x : (S_spec_l28End).a.den) : runF (A_spec_l28End) N Try.f12 S_spec_l28End x = (spec_l28End_s (spec_l28End_R3 N N (spec_l28End_K3 N)) x.1 x.2.1) := by kernel_rfl
theorem run_spec_l28End (N : Nat) (x : (S_spec_l28End).a.den) : runF (A_spec_l28End) N Try.f12 S_spec_l28End x = spec_l28End N x.1 x.2.1 := by
  refine (run0_spec_l28End N x).trans ?_
  rw [(funext fun w0 => (funext fun open5 => (funext fun i6 => spec_l28End_in3 N w0 open5 i6)))]
  rfl
theorem fn_spec_l28End : FnOk Try.prog 12 := ⟨_, Try.func12, by kernel_rfl, by kernel_rfl⟩
theorem good_spec_l28End : Gx.Good Try.prog 12 S_spec_l28End := good_of_run Try.func12 (of_decide_eq_true (by kernel_rfl)) fun x r h => ⟨A_spec_l28End, big, mkCfg_ok tabOk, mkCfg_sigs (show SigsOk Try.prog [(17, S_spec_l1In)] from ⟨⟨fn_spec_l1In, good_spec_l1In⟩, trivial⟩), (run_spec_l28End big x).trans h⟩

/-! spec_l28Good -/
def spec_l28Good_s (w_0 : (List Int)) : Option (Bool × Unit) :=
  cond (decide ((w_0.length : Int) ≤ (40 : Int)))
  ((spec_l28End big w_0 (0 : Int)).bind fun rq1 =>
  cond (decide (rq1.1 = (w_0.length : Int)))
  (some (decide ((0 : Int) < (w_0.length : Int)), (())))
  (some (false, (()))))
  (some (false, (())))
def spec_l28Good (w_0 : (List Int)) : Option (Bool × Unit) := spec_l28Good_s w_0
def S_spec_l28Good : Sig := { a := (.pair (.sl I) .unit), md := [0], mf := [], m := .unit, r := .bool, rf := .i, f := fun x => spec_l28Good x.1 }
def A_spec_l28Good : Cfg := mkCfg tab [(12, S_spec_l28End)] []
theorem run_spec_l28Good (N : Nat) (x : (S_spec_l28Good).a.den) : runF (A_spec_l28Good) N Try.f8 S_spec_l28Good x = spec_l28Good x.1 := by kernel_rfl
theorem fn_spec_l28Good : FnOk Try.prog 8 := ⟨_, Try.func8, by kernel_rfl, by kernel_rfl⟩
theorem good_spec_l28Good : Gx.Good Try.prog 8 S_spec_l28Good := good_of_run Try.func8 (of_decide_eq_true (by kernel_rfl)) fun x r h => ⟨A_spec_l28Good, big, mkCfg_ok tabOk, mkCfg_sigs (show SigsOk Try.prog [(12, S_spec_l28End)] from ⟨⟨fn_spec_l28End, good_spec_l28End⟩, trivial⟩), (run_spec_l28Good big x).trans h⟩

/-! spec_l28Parts -/
def spec_l28Parts_s (w_0 : (List Int)) : Option (((List Int) × ((List Int) × Unit)) × Unit) :=
  (spec_l28End big w_0 (1 : Int)).bind fun rq1 =>
  (slI w_0 (1 : Int) rq1.1).bind fun xq2 =>
  (slI w_0 rq1.1 w_0.length).bind fun xq3 =>
  some ((xq2, xq3, ()), (()))
def spec_l28Parts (w_0 : (List Int)) : Option (((List Int) × ((List Int) × Unit)) × Unit) := spec_l28Parts_s w_0
def S_spec_l28Parts : Sig := { a := (.pair (.sl I) .unit), md := [0], mf := [], m := .unit, r := (.tup (.pair (.sl I) (.pair (.sl I) .unit))), rf := .i, f := fun x => spec_l28Parts x.1 }
def A_spec_l28Parts : Cfg := mkCfg tab [(12, S_spec_l28End)] []
theorem run_spec_l28Parts (N : Nat) (x : (S_spec_l28Parts).a.den) : runF (A_spec_l28Parts) N Try.f13 S_spec_l28Parts x = spec_l28Parts x.1 := by kernel_rfl
theorem fn_spec_l28Parts : FnOk Try.prog 13 := ⟨_, Try.func13, by kernel_rfl, by kernel_rfl⟩
theorem good_spec_l28Parts : Gx.Good Try.prog 13 S_spec_l28Parts := good_of_run Try.func13 (of_decide_eq_true (by kernel_rfl)) fun x r h => ⟨A_spec_l28Parts, big, mkCfg_ok tabOk, mkCfg_sigs (show SigsOk Try.prog [(12, S_spec_l28End)] from ⟨⟨fn_spec_l28End, good_spec_l28End⟩, trivial⟩), (run_spec_l28Parts big x).trans h⟩

/-! types of spec_l28Text -/
def T_spec_l28Text (self : ((List Int) × Unit) → Option ((List UInt8) × Unit)) : Sig := { a := (.pair (.sl I) .unit), md := [0], mf := [], m := .unit, r := .str, rf := .i, f := self }

/-! spec_l28Text -/
def spec_l28Text_s (self_spec_l28Text : ((List Int) × Unit) → Option ((List UInt8) × Unit)) (w_0 : (List Int)) : Option ((List UInt8) × Unit) :=
  (atI w_0 (0 : Int)).bind fun xq1 =>
  cond (decide ((0 : Int) ≤ xq1))
  ((atI w_0 (0 : Int)).bind fun xq2 =>
  (atI w_0 (0 : Int)).bind fun xq3 =>
  (slI [97, 98, 99, 100, 101] xq2 (IntKind.i64.wrap (xq3 + (1 : Int)))).bind fun xq4 =>
  some (xq4, (())))
  ((spec_l28Parts w_0).bind fun rq5 =>
  (atI w_0 (0 : Int)).bind fun xq6 =>
  cond (decide (xq6 = (-2 : Int)))
  ((self_spec_l28Text (rq5.1.1, ())).bind fun rq7 =>
  (appI [40] rq7.1).bind fun xq8 =>
  (appI xq8 [124]).bind fun xq9 =>
  (self_spec_l28Text (rq5.1.2.1, ())).bind fun rq10 =>
  (appI xq9 rq10.1).bind fun xq11 =>
  (appI xq11 [41]).bind fun xq12 =>
  some (xq12, (())))
  ((self_spec_l28Text (rq5.1.1, ())).bind fun rq13 =>
  (appI [40] rq13.1).bind fun xq14 =>
  (appI xq14 [38]).bind fun xq15 =>
  (self_spec_l28Text (rq5.1.2.1, ())).bind fun rq16 =>
  (appI xq15 rq16.1).bind fun xq17 =>
  (appI xq17 [41]).bind fun xq18 =>
  some (xq18, (()))))
def spec_l28Text (self_spec_l28Text : ((List Int) × Unit) → Option ((List UInt8) × Unit)) (w_0 : (List Int)) : Option ((List UInt8) × Unit) := spec_l28Text_s self_spec_l28Text w_0
def A_spec_l28Text (self_spec_l28Text : ((List Int) × Unit) → Option ((List UInt8) × Unit)) : Cfg := mkCfg tab [(13, S_spec_l28Parts), (9, T_spec_l28Text self_spec_l28Text)] []
theorem run_spec_l28Text (self_spec_l28Text : ((List Int) × Unit) → Option ((List UInt8) × Unit)) (N : Nat) (x : ((T_spec_l28Text self_spec_l28Text)).a.den) : runF (A_spec_l28Text self_spec_l28Text) N Try.f9 (T_spec_l28Text self_spec_l28Text) x = spec_l28Text self_spec_l28Text x.1 := by kernel_rfl
theorem fn_spec_l28Text : FnOk Try.prog 9 := ⟨_, Try.func9, by kernel_rfl, by kernel_rfl⟩

/-! recursion -/
def R_spec_l28Text : Nat → ((List Int) × Unit) → Option ((List UInt8) × Unit)
  | 0, _ => none
  | d + 1, x => spec_l28Text (R_spec_l28Text d) x.1
def S_spec_l28Text : Sig := T_spec_l28Text (R_spec_l28Text big)
theorem goodR_spec_l28Text : ∀ d, Gx.Good Try.prog 9 (T_spec_l28Text (R_spec_l28Text d))
  | 0 => fun x r h => by cases h
  | d + 1 => good_of_run Try.func9 (of_decide_eq_true (by kernel_rfl)) fun x r h => ⟨A_spec_l28Text (R_spec_l28Text d), big, mkCfg_ok tabOk, mkCfg_sigs (show SigsOk Try.prog [(13, S_spec_l28Parts), (9, T_spec_l28Text (R_spec_l28Text d))] from ⟨⟨fn_spec_l28Parts, good_spec_l28Parts⟩, ⟨fn_spec_l28Text, goodR_spec_l28Text d⟩, trivial⟩), (run_spec_l28Text (R_spec_l28Text d) big x).trans h⟩
theorem good_spec_l28Text : Gx.Good Try.prog 9 S_spec_l28Text := goodR_spec_l28Text big

/-! spec_WordText -/
def spec_WordText_s (w_0 : (List Int)) : Option (((List UInt8) × (Bool × Unit)) × Unit) :=
  (spec_l28Good w_0).bind fun rq1 =>
  cond (!rq1.1)
  (some (([], false, ()), (())))
  ((R_spec_l28Text big (w_0, ())).bind fun rq2 =>
  some ((rq2.1, true, ()), (())))
def spec_WordText (w_0 : (List Int)) : Option (((List UInt8) × (Bool × Unit)) × Unit) := spec_WordText_s w_0
def S_spec_WordText : Sig := { a := (.pair (.sl I) .unit), md := [0], mf := [], m := .unit, r := (.tup (.pair .str (.pair .bool .unit))), rf := .i, f := fun x => spec_WordText x.1 }
def A_spec_WordText : Cfg := mkCfg tab [(8, S_spec_l28Good), (9, S_spec_l28Text)] []
theorem run_spec_WordText (N : Nat) (x : (S_spec_WordText).a.den) : runF (A_spec_WordText) N Try.f4 S_spec_WordText x = spec_WordText x.1 := by kernel_rfl
theorem fn_spec_WordText : FnOk Try.prog 4 := ⟨_, Try.func4, by kernel_rfl, by kernel_rfl⟩
theorem good_spec_WordText : Gx.Good Try.prog 4 S_spec_WordText := good_of_run Try.func4 (of_decide_eq_true (by kernel_rfl)) fun x r h => ⟨A_spec_WordText, big, mkCfg_ok tabOk, mkCfg_sigs (show SigsOk Try.prog [(8, S_spec_l28Good), (9, S_spec_l28Text)] from ⟨⟨fn_spec_l28Good, good_spec_l28Good⟩, ⟨fn_spec_l28Text, good_spec_l28Text⟩, trivial⟩), (run_spec_WordText big x).trans h⟩

/-! impl_wordEnd -/
def impl_wordEnd_b2 (rec : (List Int) → Int → Int → Option (Int × Unit)) (k : Int → Option (Int × Unit)) (w0 : (List Int)) (at1 : Int) (need5 : Int) : Option (Int × Unit) :=
  cond (decide ((0 : Int) < need5))
  (cond (decide ((w0.length : Int) ≤ at1))
  (some ((-1 : Int), (())))
  ((atI w0 at1).bind fun xq1 =>
  cond (decide (xq1 < (-2 : Int)))
  (some ((-1 : Int), (())))
  ((atI w0 at1).bind fun xq2 =>
  cond (decide ((5 : Int) ≤ xq2))
  (some ((-1 : Int), (())))
  ((atI w0 at1).bind fun xq3 =>
  cond (decide ((0 : Int) ≤ xq3))
  (rec w0 (IntKind.i64.wrap (at1 + (1 : Int))) (IntKind.i64.wrap (need5 - (1 : Int))))
  (rec w0 (IntKind.i64.wrap (at1 + (1 : Int))) (IntKind.i64.wrap (need5 + (1 : Int))))))))
  (k at1)
def impl_wordEnd_a2 (at1 : Int) : Option (Int × Unit) :=
  some (at1, (()))
def impl_wordEnd_s (L2 : (List Int) → Int → Int → Option (Int × Unit)) (w_0 : (List Int)) (at_1 : Int) : Option (Int × Unit) :=
  L2 w_0 at_1 (1 : Int)
def impl_wordEnd_l2 (N : Nat) (k : Int → Option (Int × Unit)) : Nat → (List Int) → Int → Int → Option (Int × Unit)
  | 0, _, _, _ => none
  | m + 1, w0, at1, need5 => impl_wordEnd_b2 (impl_wordEnd_l2 N k m) k w0 at1 need5
def impl_wordEnd_F2 (N : Nat) (w0 : (List Int)) (at1 : Int) (need5 : Int) : Option (Int × Unit) := impl_wordEnd_l2 N (impl_wordEnd_a2) N w0 at1 need5
def impl_wordEnd (N : Nat) (w_0 : (List Int)) (at_1 : Int) : Option (Int × Unit) := impl_wordEnd_s (impl_wordEnd_F2 N) w_0 at_1
def S_impl_wordEnd : Sig := { a := (.pair (.sl I) (.pair I .unit)), md := [0, 0], mf := [], m := .unit, r := I, rf := .i, f := fun x => impl_wordEnd big x.1 x.2.1 }
def A_impl_wordEnd : Cfg := mkCfg tab [] [(4, [.as (.sl I) .i, .as I .i, .drop, .drop, .drop, .as I .i]), (19, [.drop, .as I .i])]
noncomputable def impl_wordEnd_R2 (N n : Nat) (K : Ex → St → Option (Int × Unit)) (w0 : (List Int)) (at1 : Int) (need5 : Int) : Option (Int × Unit) := iter ((A_impl_wordEnd).shape 4) (run (A_impl_wordEnd) N (codeAt Try.f14 [1, 0, 1, 0, 0])) n ([.val (.sl I) .i w0, .val I .i at1, .u, .u, .u, .val I .i need5] ++ List.replicate 32 .u) K
noncomputable abbrev impl_wordEnd_z : Ex → St → Option (Int × Unit) := finish (A_impl_wordEnd) S_impl_wordEnd Try.f14.results.toList
noncomputable abbrev impl_wordEnd_X2 (kX : St → Option (Int × Unit)) : Int → Option (Int × Unit) := fun (at1 : Int) => kX ([.u, .val I .i at1] ++ List.replicate 36 .u)
noncomputable abbrev impl_wordEnd_E2 (kX : St → Option (Int × Unit)) (kO : Nat → St → Option (Int × Unit)) : Ex → St → Option (Int × Unit) := exK impl_wordEnd_z 0 ((A_impl_wordEnd).shape 19) kX kO
theorem impl_wordEnd_step2 (N : Nat) (m : Nat) (kX : St → Option (Int × Unit)) (kO : Nat → St → Option (Int × Unit)) (w0 : (List Int)) (at1 : Int) (need5 : Int) : impl_wordEnd_R2 N (m + 1) (impl_wordEnd_E2 kX kO) w0 at1 need5 = impl_wordEnd_b2 (impl_wordEnd_R2 N m (impl_wordEnd_E2 kX kO)) (impl_wordEnd_X2 kX) w0 at1 need5 := by kernel_rfl
theorem impl_wordEnd_iter2 (N : Nat) (kX : St → Option (Int × Unit)) (kO : Nat → St → Option (Int × Unit)) : ∀ (n : Nat) (w0 : (List Int)) (at1 : Int) (need5 : Int), impl_wordEnd_R2 N n (impl_wordEnd_E2 kX kO) w0 at1 need5 = impl_wordEnd_l2 N (impl_wordEnd_X2 kX) n w0 at1 need5
  | 0, _, _, _ => rfl
  | m + 1, w0, at1, need5 => by
    have hrec : impl_wordEnd_R2 N m (impl_wordEnd_E2 kX kO) = (impl_wordEnd_l2 N (impl_wordEnd_X2 kX) m) := (funext fun w0 => (funext fun at1 => (funext fun need5 => impl_wordEnd_iter2 N kX kO m w0 at1 need5)))
    refine (impl_wordEnd_step2 N m kX kO w0 at1 need5).trans ?_
    rw [hrec]
    rfl
noncomputable abbrev impl_wordEnd_K2 (N : Nat) : Ex → St → Option (Int × Unit) := (blockK 0 (seqK ((A_impl_wordEnd).shape 19) (run (A_impl_wordEnd) N (codeAt Try.f14 [1, 1])) impl_wordEnd_z))
noncomputable abbrev impl_wordEnd_k2 (N : Nat) : St → Option (Int × Unit) := fun st' => run (A_impl_wordEnd) N (codeAt Try.f14 [1, 1]) st' impl_wordEnd_z
theorem impl_wordEnd_after2 (N : Nat) (at1 : Int) : impl_wordEnd_X2 (impl_wordEnd_k2 N) at1 = impl_wordEnd_a2 at1 := by kernel_rfl
theorem impl_wordEnd_in2 (N : Nat) (w0 : (List Int)) (at1 : Int) (need5 : Int) : impl_wordEnd_R2 N N (impl_wordEnd_K2 N) w0 at1 need5 = impl_wordEnd_F2 N w0 at1 need5 :=
  have h : impl_wordEnd_X2 (impl_wordEnd_k2 N) = (impl_wordEnd_a2) := (funext fun at1 => impl_wordEnd_after2 N at1)
  ((iter_ex (fun st => by kernel_rfl) (fun st => by kernel_rfl)).trans (impl_wordEnd_iter2 N (impl_wordEnd_k2 N) (fun j st => (impl_wordEnd_K2 N) (.exit j) st) N w0 at1 need5)).trans (congrArg (fun k => impl_wordEnd_l2 N k N w0 at1 need5) h)
theorem run0_impl_wordEnd (N : Nat) (x : (S_impl_wordEnd).a.den) : runF (A_impl_wordEnd) N Try.f14 S_impl_wordEnd x = (impl_wordEnd_s (impl_wordEnd_R2 N N (impl_wordEnd_K2 N)) x.1 x.2.1) := by kernel_rfl
theorem run_impl_wordEnd (N : Nat) (x : (S_impl_wordEnd).a.den) : runF (A_impl_wordEnd) N Try.f14 S_impl_wordEnd x = impl_wordEnd N x.1 x.2.1 := by
  refine (run0_impl_wordEnd N x).trans ?_
  rw [(funext fun w0 => (funext fun at1 => (funext fun need5 => impl_wordEnd_in2 N w0 at1 need5)))]
  rfl
theorem fn_impl_wordEnd : FnOk Try.prog 14 := ⟨_, Try.func14, by kernel_rfl, by kernel_rfl⟩
theorem good_impl_wordEnd : Gx.Good Try.prog 14 S_impl_wordEnd := good_of_run Try.func14 (of_decide_eq_true (by kernel_rfl)) fun x r h => ⟨A_impl_wordEnd, big, mkCfg_ok tabOk, mkCfg_sigs (show SigsOk Try.prog [] from trivial), (run_impl_wordEnd big x).trans h⟩

/-! impl_IsWord -/
def impl_IsWord_s (w_0 : (List Int)) : Option (Bool × Unit) :=
  cond (decide ((w_0.length : Int) ≤ (40 : Int)))
  ((impl_wordEnd big w_0 (0 : Int)).bind fun rq1 =>
  some (decide (rq1.1 = (w_0.length : Int)), (())))
  (some (false, (())))
def impl_IsWord (w_0 : (List Int)) : Option (Bool × Unit) := impl_IsWord_s w_0
def S_impl_IsWord : Sig := { a := (.pair (.sl I) .unit), md := [0], mf := [], m := .unit, r := .bool, rf := .i, f := fun x => impl_IsWord x.1 }
def A_impl_IsWord : Cfg := mkCfg tab [(14, S_impl_wordEnd)] []
theorem run_impl_IsWord (N : Nat) (x : (S_impl_IsWord).a.den) : runF (A_impl_IsWord) N Try.f10 S_impl_IsWord x = impl_IsWord x.1 := by kernel_rfl
theorem fn_impl_IsWord : FnOk Try.prog 10 := ⟨_, Try.func10, by kernel_rfl, by kernel_rfl⟩
theorem good_impl_IsWord : Gx.Good Try.prog 10 S_impl_IsWord := good_of_run Try.func10 (of_decide_eq_true (by kernel_rfl)) fun x r h => ⟨A_impl_IsWord, big, mkCfg_ok tabOk, mkCfg_sigs (show SigsOk Try.prog [(14, S_impl_wordEnd)] from ⟨⟨fn_impl_wordEnd, good_impl_wordEnd⟩, trivial⟩), (run_impl_IsWord big x).trans h⟩
end Go.Proofs.Ytmpeokbbmicdgaa
