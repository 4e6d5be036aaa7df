import Derived.Test.YtcfhllnenhfigaaWA
set_option maxRecDepth 100000
set_option linter.unusedVariables false
namespace Go.Proofs.Ytcfhllnenhfigaa
open Go Go.Gx Go.Proofs
noncomputable section

/-! impl_WordText -/
def impl_WordText_s (w_0 : (List Int)) : Option (((List UInt8) × (Bool × Unit)) × Unit) :=
  (impl_IsWord w_0).bind fun rq1 =>
  cond (!rq1.1)
  (some (([], false, ()), (())))
  ((impl_wordText w_0).bind fun rq2 =>
  some ((rq2.1, true, ()), (())))
def impl_WordText (w_0 : (List Int)) : Option (((List UInt8) × (Bool × Unit)) × Unit) := impl_WordText_s w_0
def S_impl_WordText : Sig := { a := (.pair (.sl I) .unit), md := [0], mf := [], m := .unit, r := (.tup (.pair .str (.pair .bool .unit))), rf := .i, f := fun x => impl_WordText x.1 }
def A_impl_WordText : Cfg := mkCfg tab [(20, S_impl_IsWord), (21, S_impl_wordText)] []
theorem run_impl_WordText (N : Nat) (x : (S_impl_WordText).a.den) : runF (A_impl_WordText) N Try.f6 S_impl_WordText x = impl_WordText x.1 := by kernel_rfl
theorem fn_impl_WordText : FnOk Try.prog 6 := ⟨_, Try.func6, by kernel_rfl, by kernel_rfl⟩
theorem good_impl_WordText : Gx.Good Try.prog 6 S_impl_WordText := good_of_run Try.func6 (of_decide_eq_true (by kernel_rfl)) fun x r h => ⟨A_impl_WordText, big, mkCfg_ok tabOk, mkCfg_sigs (show SigsOk Try.prog [(20, S_impl_IsWord), (21, S_impl_wordText)] from ⟨⟨fn_impl_IsWord, good_impl_IsWord⟩, ⟨fn_impl_wordText, good_impl_wordText⟩, trivial⟩), (run_impl_WordText big x).trans h⟩

/-! spec_l1In -/
def spec_l1In_s (x_0 : Int) (a_1 : Int) (b_2 : Int) : Option (Bool × Unit) :=
  cond (decide (a_1 ≤ x_0))
  (some (decide (x_0 ≤ b_2), (())))
  (some (false, (())))
def spec_l1In (x_0 : Int) (a_1 : Int) (b_2 : Int) : Option (Bool × Unit) := spec_l1In_s x_0 a_1 b_2
def S_spec_l1In : Sig := { a := (.pair I (.pair I (.pair I .unit))), md := [0, 0, 0], mf := [], m := .unit, r := .bool, rf := .i, f := fun x => spec_l1In x.1 x.2.1 x.2.2.1 }
def A_spec_l1In : Cfg := mkCfg tab [] []
theorem run_spec_l1In (N : Nat) (x : (S_spec_l1In).a.den) : runF (A_spec_l1In) N Try.f36 S_spec_l1In x = spec_l1In x.1 x.2.1 x.2.2.1 := by kernel_rfl
theorem fn_spec_l1In : FnOk Try.prog 36 := ⟨_, Try.func36, by kernel_rfl, by kernel_rfl⟩
theorem good_spec_l1In : Gx.Good Try.prog 36 S_spec_l1In := good_of_run Try.func36 (of_decide_eq_true (by kernel_rfl)) fun x r h => ⟨A_spec_l1In, big, mkCfg_ok tabOk, mkCfg_sigs (show SigsOk Try.prog [] from trivial), (run_spec_l1In big x).trans h⟩

/-! spec_l28End -/
def spec_l28End_b3 (rec : (List Int) → Int → Int → Option (Int × Unit)) (k : Option (Int × Unit)) (w0 : (List Int)) (open5 : Int) (i6 : Int) : Option (Int × Unit) :=
  cond (decide (i6 < (w0.length : Int)))
  ((atI w0 i6).bind fun xq1 =>
  cond (decide (xq1 = (-1 : Int)))
  (cond (decide ((IntKind.i64.wrap (open5 + (1 : Int))) = (0 : Int)))
  (some (IntKind.i64.wrap (i6 + (1 : Int)), (())))
  (rec w0 (IntKind.i64.wrap (open5 + (1 : Int))) (IntKind.i64.wrap (i6 + (1 : Int)))))
  ((atI w0 i6).bind fun xq2 =>
  cond (decide (xq2 = (-2 : Int)))
  (cond (decide ((IntKind.i64.wrap (open5 + (1 : Int))) = (0 : Int)))
  (some (IntKind.i64.wrap (i6 + (1 : Int)), (())))
  (rec w0 (IntKind.i64.wrap (open5 + (1 : Int))) (IntKind.i64.wrap (i6 + (1 : Int)))))
  ((atI w0 i6).bind fun xq3 =>
  (spec_l1In xq3 (0 : Int) (4 : Int)).bind fun rq4 =>
  cond rq4.1
  (cond (decide ((IntKind.i64.wrap (open5 - (1 : Int))) = (0 : Int)))
  (some (IntKind.i64.wrap (i6 + (1 : Int)), (())))
  (rec w0 (IntKind.i64.wrap (open5 - (1 : Int))) (IntKind.i64.wrap (i6 + (1 : Int)))))
  (some ((-1 : Int), (()))))))
  (k)
def spec_l28End_a3 : Option (Int × Unit) :=
  some ((-1 : Int), (()))
def spec_l28End_s (L3 : (List Int) → Int → Int → Option (Int × Unit)) (w_0 : (List Int)) (from_1 : Int) : Option (Int × Unit) :=
  L3 w_0 (1 : Int) from_1
def spec_l28End_l3 (N : Nat) (k : Option (Int × Unit)) : Nat → (List Int) → Int → Int → Option (Int × Unit)
  | 0, _, _, _ => none
  | m + 1, w0, open5, i6 => spec_l28End_b3 (spec_l28End_l3 N k m) k w0 open5 i6
def spec_l28End_F3 (N : Nat) (w0 : (List Int)) (open5 : Int) (i6 : Int) : Option (Int × Unit) := spec_l28End_l3 N (spec_l28End_a3) N w0 open5 i6
def spec_l28End (N : Nat) (w_0 : (List Int)) (from_1 : Int) : Option (Int × Unit) := spec_l28End_s (spec_l28End_F3 N) w_0 from_1
def S_spec_l28End : Sig := { a := (.pair (.sl I) (.pair I .unit)), md := [0, 0], mf := [], m := .unit, r := I, rf := .i, f := fun x => spec_l28End big x.1 x.2.1 }
def A_spec_l28End : Cfg := mkCfg tab [(36, S_spec_l1In)] [(6, [.as (.sl I) .i, .drop, .drop, .drop, .drop, .as I .i, .as I .i]), (25, [])]
noncomputable def spec_l28End_R3 (N n : Nat) (K : Ex → St → Option (Int × Unit)) (w0 : (List Int)) (open5 : Int) (i6 : Int) : Option (Int × Unit) := iter ((A_spec_l28End).shape 6) (run (A_spec_l28End) N (codeAt Try.f43 [1, 1, 0, 1, 0, 0])) n ([.val (.sl I) .i w0, .u, .u, .u, .u, .val I .i open5, .val I .i i6] ++ List.replicate 34 .u) K
noncomputable abbrev spec_l28End_z : Ex → St → Option (Int × Unit) := finish (A_spec_l28End) S_spec_l28End Try.f43.results.toList
noncomputable abbrev spec_l28End_X3 (kX : St → Option (Int × Unit)) : Option (Int × Unit) := kX ([] ++ List.replicate 41 .u)
noncomputable abbrev spec_l28End_E3 (kX : St → Option (Int × Unit)) (kO : Nat → St → Option (Int × Unit)) : Ex → St → Option (Int × Unit) := exK spec_l28End_z 0 ((A_spec_l28End).shape 25) kX kO
theorem spec_l28End_step3 (N : Nat) (m : Nat) (kX : St → Option (Int × Unit)) (kO : Nat → St → Option (Int × Unit)) (w0 : (List Int)) (open5 : Int) (i6 : Int) : spec_l28End_R3 N (m + 1) (spec_l28End_E3 kX kO) w0 open5 i6 = spec_l28End_b3 (spec_l28End_R3 N m (spec_l28End_E3 kX kO)) (spec_l28End_X3 kX) w0 open5 i6 := by kernel_rfl
theorem spec_l28End_iter3 (N : Nat) (kX : St → Option (Int × Unit)) (kO : Nat → St → Option (Int × Unit)) : ∀ (n : Nat) (w0 : (List Int)) (open5 : Int) (i6 : Int), spec_l28End_R3 N n (spec_l28End_E3 kX kO) w0 open5 i6 = spec_l28End_l3 N (spec_l28End_X3 kX) n w0 open5 i6
  | 0, _, _, _ => rfl
  | m + 1, w0, open5, i6 => by
    have hrec : spec_l28End_R3 N m (spec_l28End_E3 kX kO) = (spec_l28End_l3 N (spec_l28End_X3 kX) m) := (funext fun w0 => (funext fun open5 => (funext fun i6 => spec_l28End_iter3 N kX kO m w0 open5 i6)))
    refine (spec_l28End_step3 N m kX kO w0 open5 i6).trans ?_
    rw [hrec]
    rfl
noncomputable abbrev spec_l28End_K3 (N : Nat) : Ex → St → Option (Int × Unit) := (blockK 0 (seqK ((A_spec_l28End).shape 25) (run (A_spec_l28End) N (codeAt Try.f43 [1, 1, 1])) spec_l28End_z))
noncomputable abbrev spec_l28End_k3 (N : Nat) : St → Option (Int × Unit) := fun st' => run (A_spec_l28End) N (codeAt Try.f43 [1, 1, 1]) st' spec_l28End_z
theorem spec_l28End_after3 (N : Nat) : spec_l28End_X3 (spec_l28End_k3 N) = spec_l28End_a3 := by kernel_rfl
theorem spec_l28End_in3 (N : Nat) (w0 : (List Int)) (open5 : Int) (i6 : Int) : spec_l28End_R3 N N (spec_l28End_K3 N) w0 open5 i6 = spec_l28End_F3 N w0 open5 i6 :=
  have h : spec_l28End_X3 (spec_l28End_k3 N) = (spec_l28End_a3) := spec_l28End_after3 N
  ((iter_ex (fun st => by kernel_rfl) (fun st => by kernel_rfl)).trans (spec_l28End_iter3 N (spec_l28End_k3 N) (fun j st => (spec_l28End_K3 N) (.exit j) st) N w0 open5 i6)).trans (congrArg (fun k => spec_l28End_l3 N k N w0 open5 i6) h)
theorem run0_spec_l28End (N : Nat) (x : (S_spec_l28End).a.den) : runF (A_spec_l28End) N Try.f43 S_spec_l28End x = (spec_l28End_s (spec_l28End_R3 N N (spec_l28End_K3 N)) x.1 x.2.1) := by kernel_rfl
theorem run_spec_l28End (N : Nat) (x : (S_spec_l28End).a.den) : runF (A_spec_l28End) N Try.f43 S_spec_l28End x = spec_l28End N x.1 x.2.1 := by
  refine (run0_spec_l28End N x).trans ?_
  rw [(funext fun w0 => (funext fun open5 => (funext fun i6 => spec_l28End_in3 N w0 open5 i6)))]
  rfl
theorem fn_spec_l28End : FnOk Try.prog 43 := ⟨_, Try.func43, by kernel_rfl, by kernel_rfl⟩
theorem good_spec_l28End : Gx.Good Try.prog 43 S_spec_l28End := good_of_run Try.func43 (of_decide_eq_true (by kernel_rfl)) fun x r h => ⟨A_spec_l28End, big, mkCfg_ok tabOk, mkCfg_sigs (show SigsOk Try.prog [(36, S_spec_l1In)] from ⟨⟨fn_spec_l1In, good_spec_l1In⟩, trivial⟩), (run_spec_l28End big x).trans h⟩

/-! spec_l28Good -/
def spec_l28Good_s (w_0 : (List Int)) : Option (Bool × Unit) :=
  cond (decide ((w_0.length : Int) ≤ (40 : Int)))
  ((spec_l28End big w_0 (0 : Int)).bind fun rq1 =>
  cond (decide (rq1.1 = (w_0.length : Int)))
  (some (decide ((0 : Int) < (w_0.length : Int)), (())))
  (some (false, (()))))
  (some (false, (())))
def spec_l28Good (w_0 : (List Int)) : Option (Bool × Unit) := spec_l28Good_s w_0
def S_spec_l28Good : Sig := { a := (.pair (.sl I) .unit), md := [0], mf := [], m := .unit, r := .bool, rf := .i, f := fun x => spec_l28Good x.1 }
def A_spec_l28Good : Cfg := mkCfg tab [(43, S_spec_l28End)] []
theorem run_spec_l28Good (N : Nat) (x : (S_spec_l28Good).a.den) : runF (A_spec_l28Good) N Try.f22 S_spec_l28Good x = spec_l28Good x.1 := by kernel_rfl
theorem fn_spec_l28Good : FnOk Try.prog 22 := ⟨_, Try.func22, by kernel_rfl, by kernel_rfl⟩
theorem good_spec_l28Good : Gx.Good Try.prog 22 S_spec_l28Good := good_of_run Try.func22 (of_decide_eq_true (by kernel_rfl)) fun x r h => ⟨A_spec_l28Good, big, mkCfg_ok tabOk, mkCfg_sigs (show SigsOk Try.prog [(43, S_spec_l28End)] from ⟨⟨fn_spec_l28End, good_spec_l28End⟩, trivial⟩), (run_spec_l28Good big x).trans h⟩

/-! spec_l28Parts -/
def spec_l28Parts_s (w_0 : (List Int)) : Option (((List Int) × ((List Int) × Unit)) × Unit) :=
  (spec_l28End big w_0 (1 : Int)).bind fun rq1 =>
  (slI w_0 (1 : Int) rq1.1).bind fun xq2 =>
  (slI w_0 rq1.1 w_0.length).bind fun xq3 =>
  some ((xq2, xq3, ()), (()))
def spec_l28Parts (w_0 : (List Int)) : Option (((List Int) × ((List Int) × Unit)) × Unit) := spec_l28Parts_s w_0
def S_spec_l28Parts : Sig := { a := (.pair (.sl I) .unit), md := [0], mf := [], m := .unit, r := (.tup (.pair (.sl I) (.pair (.sl I) .unit))), rf := .i, f := fun x => spec_l28Parts x.1 }
def A_spec_l28Parts : Cfg := mkCfg tab [(43, S_spec_l28End)] []
theorem run_spec_l28Parts (N : Nat) (x : (S_spec_l28Parts).a.den) : runF (A_spec_l28Parts) N Try.f44 S_spec_l28Parts x = spec_l28Parts x.1 := by kernel_rfl
theorem fn_spec_l28Parts : FnOk Try.prog 44 := ⟨_, Try.func44, by kernel_rfl, by kernel_rfl⟩
theorem good_spec_l28Parts : Gx.Good Try.prog 44 S_spec_l28Parts := good_of_run Try.func44 (of_decide_eq_true (by kernel_rfl)) fun x r h => ⟨A_spec_l28Parts, big, mkCfg_ok tabOk, mkCfg_sigs (show SigsOk Try.prog [(43, S_spec_l28End)] from ⟨⟨fn_spec_l28End, good_spec_l28End⟩, trivial⟩), (run_spec_l28Parts big x).trans h⟩

/-! types of spec_l28Text -/
def T_spec_l28Text (self : ((List Int) × Unit) → Option ((List UInt8) × Unit)) : Sig := { a := (.pair (.sl I) .unit), md := [0], mf := [], m := .unit, r := .str, rf := .i, f := self }

/-! spec_l28Text -/
def spec_l28Text_s (self_spec_l28Text : ((List Int) × Unit) → Option ((List UInt8) × Unit)) (w_0 : (List Int)) : Option ((List UInt8) × Unit) :=
  (atI w_0 (0 : Int)).bind fun xq1 =>
  cond (decide ((0 : Int) ≤ xq1))
  ((atI w_0 (0 : Int)).bind fun xq2 =>
  (atI w_0 (0 : Int)).bind fun xq3 =>
  (slI [97, 98, 99, 100, 101] xq2 (IntKind.i64.wrap (xq3 + (1 : Int)))).bind fun xq4 =>
  some (xq4, (())))
  ((spec_l28Parts w_0).bind fun rq5 =>
  (atI w_0 (0 : Int)).bind fun xq6 =>
  cond (decide (xq6 = (-2 : Int)))
  ((self_spec_l28Text (rq5.1.1, ())).bind fun rq7 =>
  (appI [40] rq7.1).bind fun xq8 =>
  (appI xq8 [124]).bind fun xq9 =>
  (self_spec_l28Text (rq5.1.2.1, ())).bind fun rq10 =>
  (appI xq9 rq10.1).bind fun xq11 =>
  (appI xq11 [41]).bind fun xq12 =>
  some (xq12, (())))
  ((self_spec_l28Text (rq5.1.1, ())).bind fun rq13 =>
  (appI [40] rq13.1).bind fun xq14 =>
  (appI xq14 [38]).bind fun xq15 =>
  (self_spec_l28Text (rq5.1.2.1, ())).bind fun rq16 =>
  (appI xq15 rq16.1).bind fun xq17 =>
  (appI xq17 [41]).bind fun xq18 =>
  some (xq18, (()))))
def spec_l28Text (self_spec_l28Text : ((List Int) × Unit) → Option ((List UInt8) × Unit)) (w_0 : (List Int)) : Option ((List UInt8) × Unit) := spec_l28Text_s self_spec_l28Text w_0
def A_spec_l28Text (self_spec_l28Text : ((List Int) × Unit) → Option ((List UInt8) × Unit)) : Cfg := mkCfg tab [(44, S_spec_l28Parts), (23, T_spec_l28Text self_spec_l28Text)] []
theorem run_spec_l28Text (self_spec_l28Text : ((List Int) × Unit) → Option ((List UInt8) × Unit)) (N : Nat) (x : ((T_spec_l28Text self_spec_l28Text)).a.den) : runF (A_spec_l28Text self_spec_l28Text) N Try.f23 (T_spec_l28Text self_spec_l28Text) x = spec_l28Text self_spec_l28Text x.1 := by kernel_rfl
theorem fn_spec_l28Text : FnOk Try.prog 23 := ⟨_, Try.func23, by kernel_rfl, by kernel_rfl⟩

/-! recursion -/
def R_spec_l28Text : Nat → ((List Int) × Unit) → Option ((List UInt8) × Unit)
  | 0, _ => none
  | d + 1, x => spec_l28Text (R_spec_l28Text d) x.1
def S_spec_l28Text : Sig := T_spec_l28Text (R_spec_l28Text big)
theorem goodR_spec_l28Text : ∀ d, Gx.Good Try.prog 23 (T_spec_l28Text (R_spec_l28Text d))
  | 0 => fun x r h => by cases h
  | d + 1 => good_of_run Try.func23 (of_decide_eq_true (by kernel_rfl)) fun x r h => ⟨A_spec_l28Text (R_spec_l28Text d), big, mkCfg_ok tabOk, mkCfg_sigs (show SigsOk Try.prog [(44, S_spec_l28Parts), (23, T_spec_l28Text (R_spec_l28Text d))] from ⟨⟨fn_spec_l28Parts, good_spec_l28Parts⟩, ⟨fn_spec_l28Text, goodR_spec_l28Text d⟩, trivial⟩), (run_spec_l28Text (R_spec_l28Text d) big x).trans h⟩
theorem good_spec_l28Text : Gx.Good Try.prog 23 S_spec_l28Text := goodR_spec_l28Text big

/-! spec_WordText -/
def spec_WordText_s (w_0 : (List Int)) : Option (((List UInt8) × (Bool × Unit)) × Unit) :=
  (spec_l28Good w_0).bind fun rq1 =>
  cond (!rq1.1)
  (some (([], false, ()), (())))
  ((R_spec_l28Text big (w_0, ())).bind fun rq2 =>
  some ((rq2.1, true, ()), (())))
def spec_WordText (w_0 : (List Int)) : Option (((List UInt8) × (Bool × Unit)) × Unit) := spec_WordText_s w_0
def S_spec_WordText : Sig := { a := (.pair (.sl I) .unit), md := [0], mf := [], m := .unit, r := (.tup (.pair .str (.pair .bool .unit))), rf := .i, f := fun x => spec_WordText x.1 }
def A_spec_WordText : Cfg := mkCfg tab [(22, S_spec_l28Good), (23, S_spec_l28Text)] []
theorem run_spec_WordText (N : Nat) (x : (S_spec_WordText).a.den) : runF (A_spec_WordText) N Try.f7 S_spec_WordText x = spec_WordText x.1 := by kernel_rfl
theorem fn_spec_WordText : FnOk Try.prog 7 := ⟨_, Try.func7, by kernel_rfl, by kernel_rfl⟩
theorem good_spec_WordText : Gx.Good Try.prog 7 S_spec_WordText := good_of_run Try.func7 (of_decide_eq_true (by kernel_rfl)) fun x r h => ⟨A_spec_WordText, big, mkCfg_ok tabOk, mkCfg_sigs (show SigsOk Try.prog [(22, S_spec_l28Good), (23, S_spec_l28Text)] from ⟨⟨fn_spec_l28Good, good_spec_l28Good⟩, ⟨fn_spec_l28Text, good_spec_l28Text⟩, trivial⟩), (run_spec_WordText big x).trans h⟩

/-! types of impl_readWord -/
def T_impl_readWord (self : ((List UInt8) × (Int × Unit)) → Option (((List Int) × ((List UInt8) × (Bool × Unit))) × Unit)) : Sig := { a := (.pair .str (.pair I .unit)), md := [0, 0], mf := [], m := .unit, r := (.tup (.pair (.sl I) (.pair .str (.pair .bool .unit)))), rf := (.p (.o .i) .i), f := self }

/-! impl_readWord -/
def impl_readWord_s (self_impl_readWord : ((List UInt8) × (Int × Unit)) → Option (((List Int) × ((List UInt8) × (Bool × Unit))) × Unit)) (s_0 : (List UInt8)) (deep_1 : Int) : Option (((List Int) × ((List UInt8) × (Bool × Unit))) × Unit) :=
  cond (decide (s_0 = []))
  (some (([], [], false, ()), (())))
  (cond (decide ((40 : Int) < deep_1))
  (some (([], [], false, ()), (())))
  ((atI s_0 (0 : Int)).bind fun xq1 =>
  cond (decide ((xq1.toNat : Int) ≠ (40 : Int)))
  ((atI s_0 (0 : Int)).bind fun xq2 =>
  (slI s_0 (1 : Int) s_0.length).bind fun xq3 =>
  (atI s_0 (0 : Int)).bind fun xq4 =>
  cond (decide ((97 : Int) ≤ (xq4.toNat : Int)))
  ((atI s_0 (0 : Int)).bind fun xq5 =>
  some (([IntKind.i64.wrap ((IntKind.i64.wrap (xq2.toNat : Int)) - (97 : Int))], xq3, decide ((xq5.toNat : Int) < (102 : Int)), ()), (())))
  (some (([IntKind.i64.wrap ((IntKind.i64.wrap (xq2.toNat : Int)) - (97 : Int))], xq3, false, ()), (()))))
  ((slI s_0 (1 : Int) s_0.length).bind fun xq6 =>
  (self_impl_readWord (xq6, IntKind.i64.wrap (deep_1 + (1 : Int)), ())).bind fun rq7 =>
  cond (!(((((), rq7.1.2).2).2).1))
  (some (([], [], false, ()), (())))
  (cond (decide (((((), rq7.1.2).2).1) = []))
  (some (([], [], false, ()), (())))
  ((atI ((((), rq7.1.2).2).1) (0 : Int)).bind fun xq8 =>
  (slI ((((), rq7.1.2).2).1) (1 : Int) ((((), rq7.1.2).2).1).length).bind fun xq9 =>
  (self_impl_readWord (xq9, IntKind.i64.wrap (deep_1 + (1 : Int)), ())).bind fun rq10 =>
  cond (!(((((), rq10.1.2).2).2).1))
  (some (([], [], false, ()), (())))
  (cond (decide ((Option.getD (mget (.int .u8) I (mput (.int .u8) I (mput (.int .u8) I [] (38 : Int) (-1 : Int)) (124 : Int) (-2 : Int)) (xq8.toNat : Int)) (0 : Int)) = (0 : Int)))
  (some (([], [], false, ()), (())))
  (cond (decide (((((), rq10.1.2).2).1) = []))
  (some (([], [], false, ()), (())))
  ((atI ((((), rq10.1.2).2).1) (0 : Int)).bind fun xq11 =>
  cond (decide ((xq11.toNat : Int) ≠ (41 : Int)))
  (some (([], [], false, ()), (())))
  ((appI [Option.getD (mget (.int .u8) I (mput (.int .u8) I (mput (.int .u8) I [] (38 : Int) (-1 : Int)) (124 : Int) (-2 : Int)) (xq8.toNat : Int)) (0 : Int)] rq7.1.1).bind fun xq12 =>
  (appI xq12 rq10.1.1).bind fun xq13 =>
  (slI ((((), rq10.1.2).2).1) (1 : Int) ((((), rq10.1.2).2).1).length).bind fun xq14 =>
  some ((xq13, xq14, true, ()), (())))))))))))
def impl_readWord (self_impl_readWord : ((List UInt8) × (Int × Unit)) → Option (((List Int) × ((List UInt8) × (Bool × Unit))) × Unit)) (s_0 : (List UInt8)) (deep_1 : Int) : Option (((List Int) × ((List UInt8) × (Bool × Unit))) × Unit) := impl_readWord_s self_impl_readWord s_0 deep_1
def A_impl_readWord (self_impl_readWord : ((List UInt8) × (Int × Unit)) → Option (((List Int) × ((List UInt8) × (Bool × Unit))) × Unit)) : Cfg := mkCfg tab [(24, T_impl_readWord self_impl_readWord)] [(25, [.drop, .drop, .drop, .drop, .drop, .drop, .drop, .as (.sl I) .i, .as .str .i, .drop, .as I .i, .as (.sl I) .i])]
theorem run_impl_readWord (self_impl_readWord : ((List UInt8) × (Int × Unit)) → Option (((List Int) × ((List UInt8) × (Bool × Unit))) × Unit)) (N : Nat) (x : ((T_impl_readWord self_impl_readWord)).a.den) : runF (A_impl_readWord self_impl_readWord) N Try.f24 (T_impl_readWord self_impl_readWord) x = impl_readWord self_impl_readWord x.1 x.2.1 := by kernel_rfl
theorem fn_impl_readWord : FnOk Try.prog 24 := ⟨_, Try.func24, by kernel_rfl, by kernel_rfl⟩

/-! recursion -/
def R_impl_readWord : Nat → ((List UInt8) × (Int × Unit)) → Option (((List Int) × ((List UInt8) × (Bool × Unit))) × Unit)
  | 0, _ => none
  | d + 1, x => impl_readWord (R_impl_readWord d) x.1 x.2.1
def S_impl_readWord : Sig := T_impl_readWord (R_impl_readWord big)
theorem goodR_impl_readWord : ∀ d, Gx.Good Try.prog 24 (T_impl_readWord (R_impl_readWord d))
  | 0 => fun x r h => by cases h
  | d + 1 => good_of_run Try.func24 (of_decide_eq_true (by kernel_rfl)) fun x r h => ⟨A_impl_readWord (R_impl_readWord d), big, mkCfg_ok tabOk, mkCfg_sigs (show SigsOk Try.prog [(24, T_impl_readWord (R_impl_readWord d))] from ⟨⟨fn_impl_readWord, goodR_impl_readWord d⟩, trivial⟩), (run_impl_readWord (R_impl_readWord d) big x).trans h⟩
theorem good_impl_readWord : Gx.Good Try.prog 24 S_impl_readWord := goodR_impl_readWord big

/-! impl_ParseWord -/
def impl_ParseWord_s (s_0 : (List UInt8)) : Option (((List Int) × (Bool × Unit)) × Unit) :=
  cond (decide ((160 : Int) < (s_0.length : Int)))
  (some (([], false, ()), (())))
  ((R_impl_readWord big (s_0, (0 : Int), ())).bind fun rq1 =>
  cond (!(((((), rq1.1.2).2).2).1))
  (some (([], false, ()), (())))
  (cond (decide (((((), rq1.1.2).2).1) ≠ []))
  (some (([], false, ()), (())))
  ((impl_IsWord rq1.1.1).bind fun rq2 =>
  cond (!rq2.1)
  (some (([], false, ()), (())))
  (some ((rq1.1.1, true, ()), (()))))))
def impl_ParseWord (s_0 : (List UInt8)) : Option (((List Int) × (Bool × Unit)) × Unit) := impl_ParseWord_s s_0
def S_impl_ParseWord : Sig := { a := (.pair .str .unit), md := [0], mf := [], m := .unit, r := (.tup (.pair (.sl I) (.pair .bool .unit))), rf := (.p (.o .i) .i), f := fun x => impl_ParseWord x.1 }
def A_impl_ParseWord : Cfg := mkCfg tab [(24, S_impl_readWord), (20, S_impl_IsWord)] []
theorem run_impl_ParseWord (N : Nat) (x : (S_impl_ParseWord).a.den) : runF (A_impl_ParseWord) N Try.f8 S_impl_ParseWord x = impl_ParseWord x.1 := by kernel_rfl
theorem fn_impl_ParseWord : FnOk Try.prog 8 := ⟨_, Try.func8, by kernel_rfl, by kernel_rfl⟩
theorem good_impl_ParseWord : Gx.Good Try.prog 8 S_impl_ParseWord := good_of_run Try.func8 (of_decide_eq_true (by kernel_rfl)) fun x r h => ⟨A_impl_ParseWord, big, mkCfg_ok tabOk, mkCfg_sigs (show SigsOk Try.prog [(24, S_impl_readWord), (20, S_impl_IsWord)] from ⟨⟨fn_impl_readWord, good_impl_readWord⟩, ⟨fn_impl_IsWord, good_impl_IsWord⟩, trivial⟩), (run_impl_ParseWord big x).trans h⟩

/-! laws_rInts -/
def laws_rInts_b4 (rec : (List Int) → (List Int) → Int → Option (Bool × Unit)) (k : Option (Bool × Unit)) (a0 : (List Int)) (b1 : (List Int)) (i5 : Int) : Option (Bool × Unit) :=
  cond (decide (i5 < (a0.length : Int)))
  ((atI a0 i5).bind fun xq1 =>
  (atI b1 i5).bind fun xq2 =>
  cond (decide (xq1 ≠ xq2))
  (some (false, (())))
  (rec a0 b1 (IntKind.i64.wrap (i5 + (1 : Int)))))
  (k)
def laws_rInts_a4 : Option (Bool × Unit) :=
  some (true, (()))
def laws_rInts_s (L4 : (List Int) → (List Int) → Int → Option (Bool × Unit)) (a_0 : (List Int)) (b_1 : (List Int)) : Option (Bool × Unit) :=
  cond (decide ((a_0.length : Int) ≠ (b_1.length : Int)))
  (some (false, (())))
  (L4 a_0 b_1 (0 : Int))
def laws_rInts_l4 (N : Nat) (k : Option (Bool × Unit)) : Nat → (List Int) → (List Int) → Int → Option (Bool × Unit)
  | 0, _, _, _ => none
  | m + 1, a0, b1, i5 => laws_rInts_b4 (laws_rInts_l4 N k m) k a0 b1 i5
def laws_rInts_F4 (N : Nat) (a0 : (List Int)) (b1 : (List Int)) (i5 : Int) : Option (Bool × Unit) := laws_rInts_l4 N (laws_rInts_a4) N a0 b1 i5
def laws_rInts (N : Nat) (a_0 : (List Int)) (b_1 : (List Int)) : Option (Bool × Unit) := laws_rInts_s (laws_rInts_F4 N) a_0 b_1
def S_laws_rInts : Sig := { a := (.pair (.sl I) (.pair (.sl I) .unit)), md := [0, 0], mf := [], m := .unit, r := .bool, rf := .i, f := fun x => laws_rInts big x.1 x.2.1 }
def A_laws_rInts : Cfg := mkCfg tab [] [(8, [.as (.sl I) .i, .as (.sl I) .i, .drop, .drop, .drop, .as I .i]), (17, [])]
noncomputable def laws_rInts_R4 (N n : Nat) (K : Ex → St → Option (Bool × Unit)) (a0 : (List Int)) (b1 : (List Int)) (i5 : Int) : Option (Bool × Unit) := iter ((A_laws_rInts).shape 8) (run (A_laws_rInts) N (codeAt Try.f9 [1, 1, 0, 1, 0, 0])) n ([.val (.sl I) .i a0, .val (.sl I) .i b1, .u, .u, .u, .val I .i i5] ++ List.replicate 20 .u) K
noncomputable abbrev laws_rInts_z : Ex → St → Option (Bool × Unit) := finish (A_laws_rInts) S_laws_rInts Try.f9.results.toList
noncomputable abbrev laws_rInts_X4 (kX : St → Option (Bool × Unit)) : Option (Bool × Unit) := kX ([] ++ List.replicate 26 .u)
noncomputable abbrev laws_rInts_E4 (kX : St → Option (Bool × Unit)) (kO : Nat → St → Option (Bool × Unit)) : Ex → St → Option (Bool × Unit) := exK laws_rInts_z 0 ((A_laws_rInts).shape 17) kX kO
theorem laws_rInts_step4 (N : Nat) (m : Nat) (kX : St → Option (Bool × Unit)) (kO : Nat → St → Option (Bool × Unit)) (a0 : (List Int)) (b1 : (List Int)) (i5 : Int) : laws_rInts_R4 N (m + 1) (laws_rInts_E4 kX kO) a0 b1 i5 = laws_rInts_b4 (laws_rInts_R4 N m (laws_rInts_E4 kX kO)) (laws_rInts_X4 kX) a0 b1 i5 := by kernel_rfl
theorem laws_rInts_iter4 (N : Nat) (kX : St → Option (Bool × Unit)) (kO : Nat → St → Option (Bool × Unit)) : ∀ (n : Nat) (a0 : (List Int)) (b1 : (List Int)) (i5 : Int), laws_rInts_R4 N n (laws_rInts_E4 kX kO) a0 b1 i5 = laws_rInts_l4 N (laws_rInts_X4 kX) n a0 b1 i5
  | 0, _, _, _ => rfl
  | m + 1, a0, b1, i5 => by
    have hrec : laws_rInts_R4 N m (laws_rInts_E4 kX kO) = (laws_rInts_l4 N (laws_rInts_X4 kX) m) := (funext fun a0 => (funext fun b1 => (funext fun i5 => laws_rInts_iter4 N kX kO m a0 b1 i5)))
    refine (laws_rInts_step4 N m kX kO a0 b1 i5).trans ?_
    rw [hrec]
    rfl
noncomputable abbrev laws_rInts_K4 (N : Nat) : Ex → St → Option (Bool × Unit) := (blockK 0 (seqK ((A_laws_rInts).shape 17) (run (A_laws_rInts) N (codeAt Try.f9 [1, 1, 1])) laws_rInts_z))
noncomputable abbrev laws_rInts_k4 (N : Nat) : St → Option (Bool × Unit) := fun st' => run (A_laws_rInts) N (codeAt Try.f9 [1, 1, 1]) st' laws_rInts_z
theorem laws_rInts_after4 (N : Nat) : laws_rInts_X4 (laws_rInts_k4 N) = laws_rInts_a4 := by kernel_rfl
theorem laws_rInts_in4 (N : Nat) (a0 : (List Int)) (b1 : (List Int)) (i5 : Int) : laws_rInts_R4 N N (laws_rInts_K4 N) a0 b1 i5 = laws_rInts_F4 N a0 b1 i5 :=
  have h : laws_rInts_X4 (laws_rInts_k4 N) = (laws_rInts_a4) := laws_rInts_after4 N
  ((iter_ex (fun st => by kernel_rfl) (fun st => by kernel_rfl)).trans (laws_rInts_iter4 N (laws_rInts_k4 N) (fun j st => (laws_rInts_K4 N) (.exit j) st) N a0 b1 i5)).trans (congrArg (fun k => laws_rInts_l4 N k N a0 b1 i5) h)
theorem run0_laws_rInts (N : Nat) (x : (S_laws_rInts).a.den) : runF (A_laws_rInts) N Try.f9 S_laws_rInts x = (laws_rInts_s (laws_rInts_R4 N N (laws_rInts_K4 N)) x.1 x.2.1) := by kernel_rfl
theorem run_laws_rInts (N : Nat) (x : (S_laws_rInts).a.den) : runF (A_laws_rInts) N Try.f9 S_laws_rInts x = laws_rInts N x.1 x.2.1 := by
  refine (run0_laws_rInts N x).trans ?_
  rw [(funext fun a0 => (funext fun b1 => (funext fun i5 => laws_rInts_in4 N a0 b1 i5)))]
  rfl
theorem fn_laws_rInts : FnOk Try.prog 9 := ⟨_, Try.func9, by kernel_rfl, by kernel_rfl⟩
theorem good_laws_rInts : Gx.Good Try.prog 9 S_laws_rInts := good_of_run Try.func9 (of_decide_eq_true (by kernel_rfl)) fun x r h => ⟨A_laws_rInts, big, mkCfg_ok tabOk, mkCfg_sigs (show SigsOk Try.prog [] from trivial), (run_laws_rInts big x).trans h⟩

/-! impl_marked -/
def impl_marked_b3 (rec : (List Int) → (List Bool) → Int → Int → Option ((List Int) × Unit)) (k : (List Int) → Option ((List Int) × Unit)) (list3 : (List Int)) (t7 : (List Bool)) (t8 : Int) (t9 : Int) : Option ((List Int) × Unit) :=
  cond (decide (t9 < t8))
  ((atI t7 t9).bind fun xq1 =>
  cond xq1
  ((appI list3 [t9]).bind fun xq2 =>
  rec xq2 t7 t8 (IntKind.i64.wrap (t9 + (1 : Int))))
  (rec list3 t7 t8 (IntKind.i64.wrap (t9 + (1 : Int)))))
  (k list3)
def impl_marked_a3 (list3 : (List Int)) : Option ((List Int) × Unit) :=
  some (list3, (()))
def impl_marked_s (L3 : (List Int) → (List Bool) → Int → Int → Option ((List Int) × Unit)) (have_0 : (List Bool)) : Option ((List Int) × Unit) :=
  L3 [] have_0 (have_0.length : Int) (0 : Int)
def impl_marked_l3 (N : Nat) (k : (List Int) → Option ((List Int) × Unit)) : Nat → (List Int) → (List Bool) → Int → Int → Option ((List Int) × Unit)
  | 0, _, _, _, _ => none
  | m + 1, list3, t7, t8, t9 => impl_marked_b3 (impl_marked_l3 N k m) k list3 t7 t8 t9
def impl_marked_F3 (N : Nat) (list3 : (List Int)) (t7 : (List Bool)) (t8 : Int) (t9 : Int) : Option ((List Int) × Unit) := impl_marked_l3 N (impl_marked_a3) N list3 t7 t8 t9
def impl_marked (N : Nat) (have_0 : (List Bool)) : Option ((List Int) × Unit) := impl_marked_s (impl_marked_F3 N) have_0
def S_impl_marked : Sig := { a := (.pair (.sl .bool) .unit), md := [0], mf := [], m := .unit, r := (.sl I), rf := (.o .i), f := fun x => impl_marked big x.1 }
def A_impl_marked : Cfg := mkCfg tab [] [(6, [.drop, .drop, .drop, .as (.sl I) (.o .i), .drop, .drop, .drop, .as (.sl .bool) .i, .as I .i, .as I .i]), (17, [.drop, .drop, .drop, .as (.sl I) (.o .i)])]
noncomputable def impl_marked_R3 (N n : Nat) (K : Ex → St → Option ((List Int) × Unit)) (list3 : (List Int)) (t7 : (List Bool)) (t8 : Int) (t9 : Int) : Option ((List Int) × Unit) := iter ((A_impl_marked).shape 6) (run (A_impl_marked) N (codeAt Try.f25 [1, 1, 0, 1, 0, 0])) n ([.u, .u, .u, .val (.sl I) (.o .i) list3, .u, .u, .u, .val (.sl .bool) .i t7, .val I .i t8, .val I .i t9] ++ List.replicate 11 .u) K
noncomputable abbrev impl_marked_z : Ex → St → Option ((List Int) × Unit) := finish (A_impl_marked) S_impl_marked Try.f25.results.toList
noncomputable abbrev impl_marked_X3 (kX : St → Option ((List Int) × Unit)) : (List Int) → Option ((List Int) × Unit) := fun (list3 : (List Int)) => kX ([.u, .u, .u, .val (.sl I) (.o .i) list3] ++ List.replicate 17 .u)
noncomputable abbrev impl_marked_E3 (kX : St → Option ((List Int) × Unit)) (kO : Nat → St → Option ((List Int) × Unit)) : Ex → St → Option ((List Int) × Unit) := exK impl_marked_z 0 ((A_impl_marked).shape 17) kX kO
theorem impl_marked_step3 (N : Nat) (m : Nat) (kX : St → Option ((List Int) × Unit)) (kO : Nat → St → Option ((List Int) × Unit)) (list3 : (List Int)) (t7 : (List Bool)) (t8 : Int) (t9 : Int) : impl_marked_R3 N (m + 1) (impl_marked_E3 kX kO) list3 t7 t8 t9 = impl_marked_b3 (impl_marked_R3 N m (impl_marked_E3 kX kO)) (impl_marked_X3 kX) list3 t7 t8 t9 := by kernel_rfl
theorem impl_marked_iter3 (N : Nat) (kX : St → Option ((List Int) × Unit)) (kO : Nat → St → Option ((List Int) × Unit)) : ∀ (n : Nat) (list3 : (List Int)) (t7 : (List Bool)) (t8 : Int) (t9 : Int), impl_marked_R3 N n (impl_marked_E3 kX kO) list3 t7 t8 t9 = impl_marked_l3 N (impl_marked_X3 kX) n list3 t7 t8 t9
  | 0, _, _, _, _ => rfl
  | m + 1, list3, t7, t8, t9 => by
    have hrec : impl_marked_R3 N m (impl_marked_E3 kX kO) = (impl_marked_l3 N (impl_marked_X3 kX) m) := (funext fun list3 => (funext fun t7 => (funext fun t8 => (funext fun t9 => impl_marked_iter3 N kX kO m list3 t7 t8 t9))))
    refine (impl_marked_step3 N m kX kO list3 t7 t8 t9).trans ?_
    rw [hrec]
    rfl
noncomputable abbrev impl_marked_K3 (N : Nat) : Ex → St → Option ((List Int) × Unit) := (blockK 0 (seqK ((A_impl_marked).shape 17) (run (A_impl_marked) N (codeAt Try.f25 [1, 1, 1])) impl_marked_z))
noncomputable abbrev impl_marked_k3 (N : Nat) : St → Option ((List Int) × Unit) := fun st' => run (A_impl_marked) N (codeAt Try.f25 [1, 1, 1]) st' impl_marked_z
theorem impl_marked_after3 (N : Nat) (list3 : (List Int)) : impl_marked_X3 (impl_marked_k3 N) list3 = impl_marked_a3 list3 := by kernel_rfl
theorem impl_marked_in3 (N : Nat) (list3 : (List Int)) (t7 : (List Bool)) (t8 : Int) (t9 : Int) : impl_marked_R3 N N (impl_marked_K3 N) list3 t7 t8 t9 = impl_marked_F3 N list3 t7 t8 t9 :=
  have h : impl_marked_X3 (impl_marked_k3 N) = (impl_marked_a3) := (funext fun list3 => impl_marked_after3 N list3)
  ((iter_ex (fun st => by kernel_rfl) (fun st => by kernel_rfl)).trans (impl_marked_iter3 N (impl_marked_k3 N) (fun j st => (impl_marked_K3 N) (.exit j) st) N list3 t7 t8 t9)).trans (congrArg (fun k => impl_marked_l3 N k N list3 t7 t8 t9) h)
theorem run0_impl_marked (N : Nat) (x : (S_impl_marked).a.den) : runF (A_impl_marked) N Try.f25 S_impl_marked x = (impl_marked_s (impl_marked_R3 N N (impl_marked_K3 N)) x.1) := by kernel_rfl
theorem run_impl_marked (N : Nat) (x : (S_impl_marked).a.den) : runF (A_impl_marked) N Try.f25 S_impl_marked x = impl_marked N x.1 := by
  refine (run0_impl_marked N x).trans ?_
  rw [(funext fun list3 => (funext fun t7 => (funext fun t8 => (funext fun t9 => impl_marked_in3 N list3 t7 t8 t9))))]
  rfl
theorem fn_impl_marked : FnOk Try.prog 25 := ⟨_, Try.func25, by kernel_rfl, by kernel_rfl⟩
theorem good_impl_marked : Gx.Good Try.prog 25 S_impl_marked := good_of_run Try.func25 (of_decide_eq_true (by kernel_rfl)) fun x r h => ⟨A_impl_marked, big, mkCfg_ok tabOk, mkCfg_sigs (show SigsOk Try.prog [] from trivial), (run_impl_marked big x).trans h⟩

/-! impl_LettersOf -/
def impl_LettersOf_b5 (rec : (List Bool) → (List Int) → Int → Int → Option (((List Int) × (Bool × Unit)) × Unit)) (k : (List Bool) → Option (((List Int) × (Bool × Unit)) × Unit)) (have4 : (List Bool)) (t12 : (List Int)) (t13 : Int) (t14 : Int) : Option (((List Int) × (Bool × Unit)) × Unit) :=
  cond (decide (t14 < t13))
  ((atI t12 t14).bind fun xq4 =>
  cond (decide ((0 : Int) ≤ xq4))
  ((atI have4 xq4).bind fun _ =>
  (have4[xq4.toNat]?).bind fun xq5 =>
  rec (have4.set xq4.toNat true) t12 t13 (IntKind.i64.wrap (t14 + (1 : Int))))
  (rec have4 t12 t13 (IntKind.i64.wrap (t14 + (1 : Int)))))
  (k have4)
def impl_LettersOf_a5 (have4 : (List Bool)) : Option (((List Int) × (Bool × Unit)) × Unit) :=
  (impl_marked big have4).bind fun rq6 =>
  some ((rq6.1, true, ()), (()))
def impl_LettersOf_s (L5 : (List Bool) → (List Int) → Int → Int → Option (((List Int) × (Bool × Unit)) × Unit)) (w_0 : (List Int)) : Option (((List Int) × (Bool × Unit)) × Unit) :=
  (impl_IsWord w_0).bind fun rq1 =>
  cond (!rq1.1)
  (some (([], false, ()), (())))
  ((mkI false (5 : Int)).bind fun xq2 => (mkI false (5 : Int)).bind fun xq3 => cond (decide ((5 : Int) ≤ (5 : Int)))
  (L5 xq3 w_0 (w_0.length : Int) (0 : Int))
  none)
def impl_LettersOf_l5 (N : Nat) (k : (List Bool) → Option (((List Int) × (Bool × Unit)) × Unit)) : Nat → (List Bool) → (List Int) → Int → Int → Option (((List Int) × (Bool × Unit)) × Unit)
  | 0, _, _, _, _ => none
  | m + 1, have4, t12, t13, t14 => impl_LettersOf_b5 (impl_LettersOf_l5 N k m) k have4 t12 t13 t14
def impl_LettersOf_F5 (N : Nat) (have4 : (List Bool)) (t12 : (List Int)) (t13 : Int) (t14 : Int) : Option (((List Int) × (Bool × Unit)) × Unit) := impl_LettersOf_l5 N (impl_LettersOf_a5) N have4 t12 t13 t14
def impl_LettersOf (N : Nat) (w_0 : (List Int)) : Option (((List Int) × (Bool × Unit)) × Unit) := impl_LettersOf_s (impl_LettersOf_F5 N) w_0
def S_impl_LettersOf : Sig := { a := (.pair (.sl I) .unit), md := [0], mf := [], m := .unit, r := (.tup (.pair (.sl I) (.pair .bool .unit))), rf := (.p (.o .i) .i), f := fun x => impl_LettersOf big x.1 }
def A_impl_LettersOf : Cfg := mkCfg tab [(20, S_impl_IsWord), (25, S_impl_marked)] [(10, [.drop, .drop, .drop, .drop, .as (.sl .bool) (.o .i), .drop, .drop, .drop, .drop, .drop, .drop, .drop, .as (.sl I) .i, .as I .i, .as I .i]), (21, [.drop, .drop, .drop, .drop, .as (.sl .bool) (.o .i)])]
noncomputable def impl_LettersOf_R5 (N n : Nat) (K : Ex → St → Option (((List Int) × (Bool × Unit)) × Unit)) (have4 : (List Bool)) (t12 : (List Int)) (t13 : Int) (t14 : Int) : Option (((List Int) × (Bool × Unit)) × Unit) := iter ((A_impl_LettersOf).shape 10) (run (A_impl_LettersOf) N (codeAt Try.f10 [1, 1, 1, 0, 1, 0, 0])) n ([.u, .u, .u, .u, .val (.sl .bool) (.o .i) have4, .u, .u, .u, .u, .u, .u, .u, .val (.sl I) .i t12, .val I .i t13, .val I .i t14] ++ List.replicate 11 .u) K
noncomputable abbrev impl_LettersOf_z : Ex → St → Option (((List Int) × (Bool × Unit)) × Unit) := finish (A_impl_LettersOf) S_impl_LettersOf Try.f10.results.toList
noncomputable abbrev impl_LettersOf_X5 (kX : St → Option (((List Int) × (Bool × Unit)) × Unit)) : (List Bool) → Option (((List Int) × (Bool × Unit)) × Unit) := fun (have4 : (List Bool)) => kX ([.u, .u, .u, .u, .val (.sl .bool) (.o .i) have4] ++ List.replicate 21 .u)
noncomputable abbrev impl_LettersOf_E5 (kX : St → Option (((List Int) × (Bool × Unit)) × Unit)) (kO : Nat → St → Option (((List Int) × (Bool × Unit)) × Unit)) : Ex → St → Option (((List Int) × (Bool × Unit)) × Unit) := exK impl_LettersOf_z 0 ((A_impl_LettersOf).shape 21) kX kO
theorem impl_LettersOf_step5 (N : Nat) (m : Nat) (kX : St → Option (((List Int) × (Bool × Unit)) × Unit)) (kO : Nat → St → Option (((List Int) × (Bool × Unit)) × Unit)) (have4 : (List Bool)) (t12 : (List Int)) (t13 : Int) (t14 : Int) : impl_LettersOf_R5 N (m + 1) (impl_LettersOf_E5 kX kO) have4 t12 t13 t14 = impl_LettersOf_b5 (impl_LettersOf_R5 N m (impl_LettersOf_E5 kX kO)) (impl_LettersOf_X5 kX) have4 t12 t13 t14 := by kernel_rfl
theorem impl_LettersOf_iter5 (N : Nat) (kX : St → Option (((List Int) × (Bool × Unit)) × Unit)) (kO : Nat → St → Option (((List Int) × (Bool × Unit)) × Unit)) : ∀ (n : Nat) (have4 : (List Bool)) (t12 : (List Int)) (t13 : Int) (t14 : Int), impl_LettersOf_R5 N n (impl_LettersOf_E5 kX kO) have4 t12 t13 t14 = impl_LettersOf_l5 N (impl_LettersOf_X5 kX) n have4 t12 t13 t14
  | 0, _, _, _, _ => rfl
  | m + 1, have4, t12, t13, t14 => by
    have hrec : impl_LettersOf_R5 N m (impl_LettersOf_E5 kX kO) = (impl_LettersOf_l5 N (impl_LettersOf_X5 kX) m) := (funext fun have4 => (funext fun t12 => (funext fun t13 => (funext fun t14 => impl_LettersOf_iter5 N kX kO m have4 t12 t13 t14))))
    refine (impl_LettersOf_step5 N m kX kO have4 t12 t13 t14).trans ?_
    rw [hrec]
    rfl
noncomputable abbrev impl_LettersOf_K5 (N : Nat) : Ex → St → Option (((List Int) × (Bool × Unit)) × Unit) := (blockK 0 (seqK ((A_impl_LettersOf).shape 21) (run (A_impl_LettersOf) N (codeAt Try.f10 [1, 1, 1, 1])) impl_LettersOf_z))
noncomputable abbrev impl_LettersOf_k5 (N : Nat) : St → Option (((List Int) × (Bool × Unit)) × Unit) := fun st' => run (A_impl_LettersOf) N (codeAt Try.f10 [1, 1, 1, 1]) st' impl_LettersOf_z
theorem impl_LettersOf_after5 (N : Nat) (have4 : (List Bool)) : impl_LettersOf_X5 (impl_LettersOf_k5 N) have4 = impl_LettersOf_a5 have4 := by kernel_rfl
theorem impl_LettersOf_in5 (N : Nat) (have4 : (List Bool)) (t12 : (List Int)) (t13 : Int) (t14 : Int) : impl_LettersOf_R5 N N (impl_LettersOf_K5 N) have4 t12 t13 t14 = impl_LettersOf_F5 N have4 t12 t13 t14 :=
  have h : impl_LettersOf_X5 (impl_LettersOf_k5 N) = (impl_LettersOf_a5) := (funext fun have4 => impl_LettersOf_after5 N have4)
  ((iter_ex (fun st => by kernel_rfl) (fun st => by kernel_rfl)).trans (impl_LettersOf_iter5 N (impl_LettersOf_k5 N) (fun j st => (impl_LettersOf_K5 N) (.exit j) st) N have4 t12 t13 t14)).trans (congrArg (fun k => impl_LettersOf_l5 N k N have4 t12 t13 t14) h)
theorem run0_impl_LettersOf (N : Nat) (x : (S_impl_LettersOf).a.den) : runF (A_impl_LettersOf) N Try.f10 S_impl_LettersOf x = (impl_LettersOf_s (impl_LettersOf_R5 N N (impl_LettersOf_K5 N)) x.1) := by kernel_rfl
theorem run_impl_LettersOf (N : Nat) (x : (S_impl_LettersOf).a.den) : runF (A_impl_LettersOf) N Try.f10 S_impl_LettersOf x = impl_LettersOf N x.1 := by
  refine (run0_impl_LettersOf N x).trans ?_
  rw [(funext fun have4 => (funext fun t12 => (funext fun t13 => (funext fun t14 => impl_LettersOf_in5 N have4 t12 t13 t14))))]
  rfl
theorem fn_impl_LettersOf : FnOk Try.prog 10 := ⟨_, Try.func10, by kernel_rfl, by kernel_rfl⟩
theorem good_impl_LettersOf : Gx.Good Try.prog 10 S_impl_LettersOf := good_of_run Try.func10 (of_decide_eq_true (by kernel_rfl)) fun x r h => ⟨A_impl_LettersOf, big, mkCfg_ok tabOk, mkCfg_sigs (show SigsOk Try.prog [(20, S_impl_IsWord), (25, S_impl_marked)] from ⟨⟨fn_impl_IsWord, good_impl_IsWord⟩, ⟨fn_impl_marked, good_impl_marked⟩, trivial⟩), (run_impl_LettersOf big x).trans h⟩

/-! impl_clone -/
def impl_clone_s (list_0 : (List Int)) : Option ((List Int) × Unit) :=
  (appI [] list_0).bind fun xq1 =>
  some (xq1, (()))
def impl_clone (list_0 : (List Int)) : Option ((List Int) × Unit) := impl_clone_s list_0
def S_impl_clone : Sig := { a := (.pair (.sl I) .unit), md := [0], mf := [], m := .unit, r := (.sl I), rf := (.o .i), f := fun x => impl_clone x.1 }
def A_impl_clone : Cfg := mkCfg tab [] []
theorem run_impl_clone (N : Nat) (x : (S_impl_clone).a.den) : runF (A_impl_clone) N Try.f26 S_impl_clone x = impl_clone x.1 := by kernel_rfl
theorem fn_impl_clone : FnOk Try.prog 26 := ⟨_, Try.func26, by kernel_rfl, by kernel_rfl⟩
theorem good_impl_clone : Gx.Good Try.prog 26 S_impl_clone := good_of_run Try.func26 (of_decide_eq_true (by kernel_rfl)) fun x r h => ⟨A_impl_clone, big, mkCfg_ok tabOk, mkCfg_sigs (show SigsOk Try.prog [] from trivial), (run_impl_clone big x).trans h⟩

/-! impl_partsOf -/
def impl_partsOf_s (w_0 : (List Int)) : Option (((List Int) × ((List Int) × Unit)) × Unit) :=
  (impl_wordEnd big w_0 (1 : Int)).bind fun rq1 =>
  (slI w_0 (1 : Int) rq1.1).bind fun xq2 =>
  (slI w_0 rq1.1 w_0.length).bind fun xq3 =>
  some ((xq2, xq3, ()), (()))
def impl_partsOf (w_0 : (List Int)) : Option (((List Int) × ((List Int) × Unit)) × Unit) := impl_partsOf_s w_0
def S_impl_partsOf : Sig := { a := (.pair (.sl I) .unit), md := [0], mf := [], m := .unit, r := (.tup (.pair (.sl I) (.pair (.sl I) .unit))), rf := .i, f := fun x => impl_partsOf x.1 }
def A_impl_partsOf : Cfg := mkCfg tab [(40, S_impl_wordEnd)] []
theorem run_impl_partsOf (N : Nat) (x : (S_impl_partsOf).a.den) : runF (A_impl_partsOf) N Try.f45 S_impl_partsOf x = impl_partsOf x.1 := by kernel_rfl
theorem fn_impl_partsOf : FnOk Try.prog 45 := ⟨_, Try.func45, by kernel_rfl, by kernel_rfl⟩
theorem good_impl_partsOf : Gx.Good Try.prog 45 S_impl_partsOf := good_of_run Try.func45 (of_decide_eq_true (by kernel_rfl)) fun x r h => ⟨A_impl_partsOf, big, mkCfg_ok tabOk, mkCfg_sigs (show SigsOk Try.prog [(40, S_impl_wordEnd)] from ⟨⟨fn_impl_wordEnd, good_impl_wordEnd⟩, trivial⟩), (run_impl_partsOf big x).trans h⟩

/-! types of impl_membersOf -/
def T_impl_membersOf (self : ((List Int) × (Int × Unit)) → Option ((List (List Int)) × Unit)) : Sig := { a := (.pair (.sl I) (.pair I .unit)), md := [0, 0], mf := [], m := .unit, r := (.sl (.sl I)), rf := (.o (.o .i)), f := self }

/-! impl_membersOf -/
def impl_membersOf_s (self_impl_membersOf : ((List Int) × (Int × Unit)) → Option ((List (List Int)) × Unit)) (w_0 : (List Int)) (sign_1 : Int) : Option ((List (List Int)) × Unit) :=
  (atI w_0 (0 : Int)).bind fun xq1 =>
  cond (decide (xq1 ≠ sign_1))
  ((impl_clone w_0).bind fun rq2 =>
  some ([rq2.1], (())))
  ((impl_partsOf w_0).bind fun rq3 =>
  (self_impl_membersOf (rq3.1.1, sign_1, ())).bind fun rq4 =>
  (self_impl_membersOf (rq3.1.2.1, sign_1, ())).bind fun rq5 =>
  (appI rq4.1 rq5.1).bind fun xq6 =>
  some (xq6, (())))
def impl_membersOf (self_impl_membersOf : ((List Int) × (Int × Unit)) → Option ((List (List Int)) × Unit)) (w_0 : (List Int)) (sign_1 : Int) : Option ((List (List Int)) × Unit) := impl_membersOf_s self_impl_membersOf w_0 sign_1
def A_impl_membersOf (self_impl_membersOf : ((List Int) × (Int × Unit)) → Option ((List (List Int)) × Unit)) : Cfg := mkCfg tab [(26, S_impl_clone), (45, S_impl_partsOf), (27, T_impl_membersOf self_impl_membersOf)] []
theorem run_impl_membersOf (self_impl_membersOf : ((List Int) × (Int × Unit)) → Option ((List (List Int)) × Unit)) (N : Nat) (x : ((T_impl_membersOf self_impl_membersOf)).a.den) : runF (A_impl_membersOf self_impl_membersOf) N Try.f27 (T_impl_membersOf self_impl_membersOf) x = impl_membersOf self_impl_membersOf x.1 x.2.1 := by kernel_rfl
theorem fn_impl_membersOf : FnOk Try.prog 27 := ⟨_, Try.func27, by kernel_rfl, by kernel_rfl⟩

/-! recursion -/
def R_impl_membersOf : Nat → ((List Int) × (Int × Unit)) → Option ((List (List Int)) × Unit)
  | 0, _ => none
  | d + 1, x => impl_membersOf (R_impl_membersOf d) x.1 x.2.1
def S_impl_membersOf : Sig := T_impl_membersOf (R_impl_membersOf big)
theorem goodR_impl_membersOf : ∀ d, Gx.Good Try.prog 27 (T_impl_membersOf (R_impl_membersOf d))
  | 0 => fun x r h => by cases h
  | d + 1 => good_of_run Try.func27 (of_decide_eq_true (by kernel_rfl)) fun x r h => ⟨A_impl_membersOf (R_impl_membersOf d), big, mkCfg_ok tabOk, mkCfg_sigs (show SigsOk Try.prog [(26, S_impl_clone), (45, S_impl_partsOf), (27, T_impl_membersOf (R_impl_membersOf d))] from ⟨⟨fn_impl_clone, good_impl_clone⟩, ⟨fn_impl_partsOf, good_impl_partsOf⟩, ⟨fn_impl_membersOf, goodR_impl_membersOf d⟩, trivial⟩), (run_impl_membersOf (R_impl_membersOf d) big x).trans h⟩
theorem good_impl_membersOf : Gx.Good Try.prog 27 S_impl_membersOf := goodR_impl_membersOf big

/-! impl_MembersOf -/
def impl_MembersOf_s (w_0 : (List Int)) : Option (((List (List Int)) × (Bool × Unit)) × Unit) :=
  (impl_IsWord w_0).bind fun rq1 =>
  cond (!rq1.1)
  (some (([], false, ()), (())))
  ((atI w_0 (0 : Int)).bind fun xq2 =>
  cond (decide ((0 : Int) ≤ xq2))
  ((impl_clone w_0).bind fun rq3 =>
  some (([rq3.1], true, ()), (())))
  ((atI w_0 (0 : Int)).bind fun xq4 =>
  (R_impl_membersOf big (w_0, xq4, ())).bind fun rq5 =>
  some ((rq5.1, true, ()), (()))))
def impl_MembersOf (w_0 : (List Int)) : Option (((List (List Int)) × (Bool × Unit)) × Unit) := impl_MembersOf_s w_0
def S_impl_MembersOf : Sig := { a := (.pair (.sl I) .unit), md := [0], mf := [], m := .unit, r := (.tup (.pair (.sl (.sl I)) (.pair .bool .unit))), rf := (.p (.o (.o .i)) .i), f := fun x => impl_MembersOf x.1 }
def A_impl_MembersOf : Cfg := mkCfg tab [(20, S_impl_IsWord), (26, S_impl_clone), (27, S_impl_membersOf)] []
theorem run_impl_MembersOf (N : Nat) (x : (S_impl_MembersOf).a.den) : runF (A_impl_MembersOf) N Try.f11 S_impl_MembersOf x = impl_MembersOf x.1 := by kernel_rfl
theorem fn_impl_MembersOf : FnOk Try.prog 11 := ⟨_, Try.func11, by kernel_rfl, by kernel_rfl⟩
theorem good_impl_MembersOf : Gx.Good Try.prog 11 S_impl_MembersOf := good_of_run Try.func11 (of_decide_eq_true (by kernel_rfl)) fun x r h => ⟨A_impl_MembersOf, big, mkCfg_ok tabOk, mkCfg_sigs (show SigsOk Try.prog [(20, S_impl_IsWord), (26, S_impl_clone), (27, S_impl_membersOf)] from ⟨⟨fn_impl_IsWord, good_impl_IsWord⟩, ⟨fn_impl_clone, good_impl_clone⟩, ⟨fn_impl_membersOf, good_impl_membersOf⟩, trivial⟩), (run_impl_MembersOf big x).trans h⟩

/-! impl_areWords -/
def impl_areWords_s (s_0 : (List Int)) (t_1 : (List Int)) : Option (Bool × Unit) :=
  (impl_IsWord s_0).bind fun rq1 =>
  cond rq1.1
  ((impl_IsWord t_1).bind fun rq2 =>
  some (rq2.1, (())))
  (some (false, (())))
def impl_areWords (s_0 : (List Int)) (t_1 : (List Int)) : Option (Bool × Unit) := impl_areWords_s s_0 t_1
def S_impl_areWords : Sig := { a := (.pair (.sl I) (.pair (.sl I) .unit)), md := [0, 0], mf := [], m := .unit, r := .bool, rf := .i, f := fun x => impl_areWords x.1 x.2.1 }
def A_impl_areWords : Cfg := mkCfg tab [(20, S_impl_IsWord)] []
theorem run_impl_areWords (N : Nat) (x : (S_impl_areWords).a.den) : runF (A_impl_areWords) N Try.f28 S_impl_areWords x = impl_areWords x.1 x.2.1 := by kernel_rfl
theorem fn_impl_areWords : FnOk Try.prog 28 := ⟨_, Try.func28, by kernel_rfl, by kernel_rfl⟩
theorem good_impl_areWords : Gx.Good Try.prog 28 S_impl_areWords := good_of_run Try.func28 (of_decide_eq_true (by kernel_rfl)) fun x r h => ⟨A_impl_areWords, big, mkCfg_ok tabOk, mkCfg_sigs (show SigsOk Try.prog [(20, S_impl_IsWord)] from ⟨⟨fn_impl_IsWord, good_impl_IsWord⟩, trivial⟩), (run_impl_areWords big x).trans h⟩

/-! impl_SubstituteWord -/
def impl_SubstituteWord_b5 (rec : Int → (List Int) → (List Int) → (List Int) → Int → Int → Option (((List Int) × (Bool × Unit)) × Unit)) (k : (List Int) → Option (((List Int) × (Bool × Unit)) × Unit)) (letter1 : Int) (s2 : (List Int)) (list8 : (List Int)) (t25 : (List Int)) (t26 : Int) (t27 : Int) : Option (((List Int) × (Bool × Unit)) × Unit) :=
  cond (decide (t27 < t26))
  ((atI t25 t27).bind fun xq2 =>
  cond (decide (xq2 = letter1))
  ((appI list8 s2).bind fun xq3 =>
  rec letter1 s2 xq3 t25 t26 (IntKind.i64.wrap (t27 + (1 : Int))))
  ((appI list8 [xq2]).bind fun xq4 =>
  rec letter1 s2 xq4 t25 t26 (IntKind.i64.wrap (t27 + (1 : Int)))))
  (k list8)
def impl_SubstituteWord_a5 (list8 : (List Int)) : Option (((List Int) × (Bool × Unit)) × Unit) :=
  cond (decide ((40 : Int) < (list8.length : Int)))
  (some (([], false, ()), (())))
  (some ((list8, true, ()), (())))
def impl_SubstituteWord_s (L5 : Int → (List Int) → (List Int) → (List Int) → Int → Int → Option (((List Int) × (Bool × Unit)) × Unit)) (w_0 : (List Int)) (letter_1 : Int) (s_2 : (List Int)) : Option (((List Int) × (Bool × Unit)) × Unit) :=
  (impl_areWords w_0 s_2).bind fun rq1 =>
  cond (!rq1.1)
  (some (([], false, ()), (())))
  (cond (decide (letter_1 < (0 : Int)))
  (some (([], false, ()), (())))
  (cond (decide ((5 : Int) ≤ letter_1))
  (some (([], false, ()), (())))
  (L5 letter_1 s_2 [] w_0 (w_0.length : Int) (0 : Int))))
def impl_SubstituteWord_l5 (N : Nat) (k : (List Int) → Option (((List Int) × (Bool × Unit)) × Unit)) : Nat → Int → (List Int) → (List Int) → (List Int) → Int → Int → Option (((List Int) × (Bool × Unit)) × Unit)
  | 0, _, _, _, _, _, _ => none
  | m + 1, letter1, s2, list8, t25, t26, t27 => impl_SubstituteWord_b5 (impl_SubstituteWord_l5 N k m) k letter1 s2 list8 t25 t26 t27
def impl_SubstituteWord_F5 (N : Nat) (letter1 : Int) (s2 : (List Int)) (list8 : (List Int)) (t25 : (List Int)) (t26 : Int) (t27 : Int) : Option (((List Int) × (Bool × Unit)) × Unit) := impl_SubstituteWord_l5 N (impl_SubstituteWord_a5) N letter1 s2 list8 t25 t26 t27
def impl_SubstituteWord (N : Nat) (w_0 : (List Int)) (letter_1 : Int) (s_2 : (List Int)) : Option (((List Int) × (Bool × Unit)) × Unit) := impl_SubstituteWord_s (impl_SubstituteWord_F5 N) w_0 letter_1 s_2
def S_impl_SubstituteWord : Sig := { a := (.pair (.sl I) (.pair I (.pair (.sl I) .unit))), md := [0, 0, 0], mf := [], m := .unit, r := (.tup (.pair (.sl I) (.pair .bool .unit))), rf := (.p (.o .i) .i), f := fun x => impl_SubstituteWord big x.1 x.2.1 x.2.2.1 }
def A_impl_SubstituteWord : Cfg := mkCfg tab [(28, S_impl_areWords)] [(10, [.drop, .as I .i, .as (.sl I) .i, .drop, .drop, .drop, .drop, .drop, .as (.sl I) (.o .i), .drop, .drop, .drop, .drop, .drop, .drop, .drop, .drop, .drop, .drop, .drop, .drop, .drop, .drop, .drop, .drop, .as (.sl I) .i, .as I .i, .as I .i]), (23, [.drop, .drop, .drop, .drop, .drop, .drop, .drop, .drop, .as (.sl I) (.o .i)])]
noncomputable def impl_SubstituteWord_R5 (N n : Nat) (K : Ex → St → Option (((List Int) × (Bool × Unit)) × Unit)) (letter1 : Int) (s2 : (List Int)) (list8 : (List Int)) (t25 : (List Int)) (t26 : Int) (t27 : Int) : Option (((List Int) × (Bool × Unit)) × Unit) := iter ((A_impl_SubstituteWord).shape 10) (run (A_impl_SubstituteWord) N (codeAt Try.f12 [1, 1, 1, 0, 1, 0, 0])) n ([.u, .val I .i letter1, .val (.sl I) .i s2, .u, .u, .u, .u, .u, .val (.sl I) (.o .i) list8, .u, .u, .u, .u, .u, .u, .u, .u, .u, .u, .u, .u, .u, .u, .u, .u, .val (.sl I) .i t25, .val I .i t26, .val I .i t27] ++ List.replicate 19 .u) K
noncomputable abbrev impl_SubstituteWord_z : Ex → St → Option (((List Int) × (Bool × Unit)) × Unit) := finish (A_impl_SubstituteWord) S_impl_SubstituteWord Try.f12.results.toList
noncomputable abbrev impl_SubstituteWord_X5 (kX : St → Option (((List Int) × (Bool × Unit)) × Unit)) : (List Int) → Option (((List Int) × (Bool × Unit)) × Unit) := fun (list8 : (List Int)) => kX ([.u, .u, .u, .u, .u, .u, .u, .u, .val (.sl I) (.o .i) list8] ++ List.replicate 38 .u)
noncomputable abbrev impl_SubstituteWord_E5 (kX : St → Option (((List Int) × (Bool × Unit)) × Unit)) (kO : Nat → St → Option (((List Int) × (Bool × Unit)) × Unit)) : Ex → St → Option (((List Int) × (Bool × Unit)) × Unit) := exK impl_SubstituteWord_z 0 ((A_impl_SubstituteWord).shape 23) kX kO
theorem impl_SubstituteWord_step5 (N : Nat) (m : Nat) (kX : St → Option (((List Int) × (Bool × Unit)) × Unit)) (kO : Nat → St → Option (((List Int) × (Bool × Unit)) × Unit)) (letter1 : Int) (s2 : (List Int)) (list8 : (List Int)) (t25 : (List Int)) (t26 : Int) (t27 : Int) : impl_SubstituteWord_R5 N (m + 1) (impl_SubstituteWord_E5 kX kO) letter1 s2 list8 t25 t26 t27 = impl_SubstituteWord_b5 (impl_SubstituteWord_R5 N m (impl_SubstituteWord_E5 kX kO)) (impl_SubstituteWord_X5 kX) letter1 s2 list8 t25 t26 t27 := by kernel_rfl
theorem impl_SubstituteWord_iter5 (N : Nat) (kX : St → Option (((List Int) × (Bool × Unit)) × Unit)) (kO : Nat → St → Option (((List Int) × (Bool × Unit)) × Unit)) : ∀ (n : Nat) (letter1 : Int) (s2 : (List Int)) (list8 : (List Int)) (t25 : (List Int)) (t26 : Int) (t27 : Int), impl_SubstituteWord_R5 N n (impl_SubstituteWord_E5 kX kO) letter1 s2 list8 t25 t26 t27 = impl_SubstituteWord_l5 N (impl_SubstituteWord_X5 kX) n letter1 s2 list8 t25 t26 t27
  | 0, _, _, _, _, _, _ => rfl
  | m + 1, letter1, s2, list8, t25, t26, t27 => by
    have hrec : impl_SubstituteWord_R5 N m (impl_SubstituteWord_E5 kX kO) = (impl_SubstituteWord_l5 N (impl_SubstituteWord_X5 kX) m) := (funext fun letter1 => (funext fun s2 => (funext fun list8 => (funext fun t25 => (funext fun t26 => (funext fun t27 => impl_SubstituteWord_iter5 N kX kO m letter1 s2 list8 t25 t26 t27))))))
    refine (impl_SubstituteWord_step5 N m kX kO letter1 s2 list8 t25 t26 t27).trans ?_
    rw [hrec]
    rfl
noncomputable abbrev impl_SubstituteWord_K5 (N : Nat) : Ex → St → Option (((List Int) × (Bool × Unit)) × Unit) := (blockK 0 (seqK ((A_impl_SubstituteWord).shape 23) (run (A_impl_SubstituteWord) N (codeAt Try.f12 [1, 1, 1, 1])) impl_SubstituteWord_z))
noncomputable abbrev impl_SubstituteWord_k5 (N : Nat) : St → Option (((List Int) × (Bool × Unit)) × Unit) := fun st' => run (A_impl_SubstituteWord) N (codeAt Try.f12 [1, 1, 1, 1]) st' impl_SubstituteWord_z
theorem impl_SubstituteWord_after5 (N : Nat) (list8 : (List Int)) : impl_SubstituteWord_X5 (impl_SubstituteWord_k5 N) list8 = impl_SubstituteWord_a5 list8 := by kernel_rfl
theorem impl_SubstituteWord_in5 (N : Nat) (letter1 : Int) (s2 : (List Int)) (list8 : (List Int)) (t25 : (List Int)) (t26 : Int) (t27 : Int) : impl_SubstituteWord_R5 N N (impl_SubstituteWord_K5 N) letter1 s2 list8 t25 t26 t27 = impl_SubstituteWord_F5 N letter1 s2 list8 t25 t26 t27 :=
  have h : impl_SubstituteWord_X5 (impl_SubstituteWord_k5 N) = (impl_SubstituteWord_a5) := (funext fun list8 => impl_SubstituteWord_after5 N list8)
  ((iter_ex (fun st => by kernel_rfl) (fun st => by kernel_rfl)).trans (impl_SubstituteWord_iter5 N (impl_SubstituteWord_k5 N) (fun j st => (impl_SubstituteWord_K5 N) (.exit j) st) N letter1 s2 list8 t25 t26 t27)).trans (congrArg (fun k => impl_SubstituteWord_l5 N k N letter1 s2 list8 t25 t26 t27) h)
theorem run0_impl_SubstituteWord (N : Nat) (x : (S_impl_SubstituteWord).a.den) : runF (A_impl_SubstituteWord) N Try.f12 S_impl_SubstituteWord x = (impl_SubstituteWord_s (impl_SubstituteWord_R5 N N (impl_SubstituteWord_K5 N)) x.1 x.2.1 x.2.2.1) := by kernel_rfl
theorem run_impl_SubstituteWord (N : Nat) (x : (S_impl_SubstituteWord).a.den) : runF (A_impl_SubstituteWord) N Try.f12 S_impl_SubstituteWord x = impl_SubstituteWord N x.1 x.2.1 x.2.2.1 := by
  refine (run0_impl_SubstituteWord N x).trans ?_
  rw [(funext fun letter1 => (funext fun s2 => (funext fun list8 => (funext fun t25 => (funext fun t26 => (funext fun t27 => impl_SubstituteWord_in5 N letter1 s2 list8 t25 t26 t27))))))]
  rfl
theorem fn_impl_SubstituteWord : FnOk Try.prog 12 := ⟨_, Try.func12, by kernel_rfl, by kernel_rfl⟩
theorem good_impl_SubstituteWord : Gx.Good Try.prog 12 S_impl_SubstituteWord := good_of_run Try.func12 (of_decide_eq_true (by kernel_rfl)) fun x r h => ⟨A_impl_SubstituteWord, big, mkCfg_ok tabOk, mkCfg_sigs (show SigsOk Try.prog [(28, S_impl_areWords)] from ⟨⟨fn_impl_areWords, good_impl_areWords⟩, trivial⟩), (run_impl_SubstituteWord big x).trans h⟩

/-! spec_l1Cur_spoilt -/
def spec_l1Cur_spoilt_s (c_0 : ((List Int) × (Int × (Int × Unit)))) (t_1 : (List UInt8)) (with_2 : (List UInt8)) : Option ((List UInt8) × (((List Int) × (Int × (Int × Unit))) × Unit)) :=
  cond (decide (t_1 = []))
  ((slI with_2 0 (1 : Int)).bind fun xq1 =>
  some (xq1, (c_0, ())))
  ((spec_l1Cur_pick c_0 (t_1.length : Int)).bind fun rq2 =>
  (spec_l1Cur_pick rq2.2.1 (with_2.length : Int)).bind fun rq3 =>
  (slI with_2 rq3.1 with_2.length).bind fun xq4 =>
  (slI xq4 0 (1 : Int)).bind fun xq5 =>
  (spec_l1Cur_pick rq3.2.1 (3 : Int)).bind fun rq6 =>
  cond (decide (rq6.1 = (0 : Int)))
  ((slI t_1 0 rq2.1).bind fun xq7 =>
  (appI xq7 xq5).bind fun xq8 =>
  (slI t_1 rq2.1 t_1.length).bind fun xq9 =>
  (appI xq8 xq9).bind fun xq10 =>
  some (xq10, (rq6.2.1, ())))
  (cond (decide (rq6.1 = (1 : Int)))
  ((slI t_1 0 rq2.1).bind fun xq11 =>
  (appI xq11 xq5).bind fun xq12 =>
  (slI t_1 (IntKind.i64.wrap (rq2.1 + (1 : Int))) t_1.length).bind fun xq13 =>
  (appI xq12 xq13).bind fun xq14 =>
  some (xq14, (rq6.2.1, ())))
  ((slI t_1 0 rq2.1).bind fun xq15 =>
  (slI t_1 (IntKind.i64.wrap (rq2.1 + (1 : Int))) t_1.length).bind fun xq16 =>
  (appI xq15 xq16).bind fun xq17 =>
  some (xq17, (rq6.2.1, ())))))
def spec_l1Cur_spoilt (c_0 : ((List Int) × (Int × (Int × Unit)))) (t_1 : (List UInt8)) (with_2 : (List UInt8)) : Option ((List UInt8) × (((List Int) × (Int × (Int × Unit))) × Unit)) := spec_l1Cur_spoilt_s c_0 t_1 with_2
def S_spec_l1Cur_spoilt : Sig := { a := (.pair (.ptr (.pair (.sl (.int .u8)) (.pair I (.pair (.int .u64) .unit)))) (.pair .str (.pair .str .unit))), md := [1, 0, 0], mf := [(.o .i)], m := (.pair (.ptr (.pair (.sl (.int .u8)) (.pair I (.pair (.int .u64) .unit)))) .unit), r := .str, rf := .i, f := fun x => spec_l1Cur_spoilt x.1 x.2.1 x.2.2.1 }
def A_spec_l1Cur_spoilt : Cfg := mkCfg tab [(34, S_spec_l1Cur_pick)] []
theorem run_spec_l1Cur_spoilt (N : Nat) (x : (S_spec_l1Cur_spoilt).a.den) : runF (A_spec_l1Cur_spoilt) N Try.f31 S_spec_l1Cur_spoilt x = spec_l1Cur_spoilt x.1 x.2.1 x.2.2.1 := by kernel_rfl
theorem fn_spec_l1Cur_spoilt : FnOk Try.prog 31 := ⟨_, Try.func31, by kernel_rfl, by kernel_rfl⟩
theorem good_spec_l1Cur_spoilt : Gx.Good Try.prog 31 S_spec_l1Cur_spoilt := good_of_run Try.func31 (of_decide_eq_true (by kernel_rfl)) fun x r h => ⟨A_spec_l1Cur_spoilt, big, mkCfg_ok tabOk, mkCfg_sigs (show SigsOk Try.prog [(34, S_spec_l1Cur_pick)] from ⟨⟨fn_spec_l1Cur_pick, good_spec_l1Cur_pick⟩, trivial⟩), (run_spec_l1Cur_spoilt big x).trans h⟩

/-! spec_DrawParseWord -/
def spec_DrawParseWord_s (code_0 : (List Int)) : Option ((List UInt8) × Unit) :=
  (spec_l1Cur_word big (code_0, ((0 : Int), ((0 : Int), ())))).bind fun rq1 =>
  (spec_l28Good rq1.1).bind fun rq2 =>
  cond rq2.1
  ((R_spec_l28Text big (rq1.1, ())).bind fun rq3 =>
  (spec_l1Cur_one rq1.2.1 (3 : Int)).bind fun rq4 =>
  cond rq4.1
  ((spec_l1Cur_spoilt rq4.2.1 rq3.1 [97, 98, 40, 38, 124, 41]).bind fun rq5 =>
  some (rq5.1, (())))
  (some (rq3.1, (()))))
  ((spec_l1Cur_one rq1.2.1 (3 : Int)).bind fun rq6 =>
  cond rq6.1
  ((spec_l1Cur_spoilt rq6.2.1 [40, 97, 38, 98, 41] [97, 98, 40, 38, 124, 41]).bind fun rq7 =>
  some (rq7.1, (())))
  (some ([40, 97, 38, 98, 41], (()))))
def spec_DrawParseWord (code_0 : (List Int)) : Option ((List UInt8) × Unit) := spec_DrawParseWord_s code_0
def S_spec_DrawParseWord : Sig := { a := (.pair (.sl (.int .u8)) .unit), md := [0], mf := [], m := .unit, r := .str, rf := .i, f := fun x => spec_DrawParseWord x.1 }
def A_spec_DrawParseWord : Cfg := mkCfg tab [(29, S_spec_l1Cur_word), (22, S_spec_l28Good), (23, S_spec_l28Text), (30, S_spec_l1Cur_one), (31, S_spec_l1Cur_spoilt)] []
theorem run_spec_DrawParseWord (N : Nat) (x : (S_spec_DrawParseWord).a.den) : runF (A_spec_DrawParseWord) N Try.f13 S_spec_DrawParseWord x = spec_DrawParseWord x.1 := by kernel_rfl
theorem fn_spec_DrawParseWord : FnOk Try.prog 13 := ⟨_, Try.func13, by kernel_rfl, by kernel_rfl⟩
theorem good_spec_DrawParseWord : Gx.Good Try.prog 13 S_spec_DrawParseWord := good_of_run Try.func13 (of_decide_eq_true (by kernel_rfl)) fun x r h => ⟨A_spec_DrawParseWord, big, mkCfg_ok tabOk, mkCfg_sigs (show SigsOk Try.prog [(29, S_spec_l1Cur_word), (22, S_spec_l28Good), (23, S_spec_l28Text), (30, S_spec_l1Cur_one), (31, S_spec_l1Cur_spoilt)] from ⟨⟨fn_spec_l1Cur_word, good_spec_l1Cur_word⟩, ⟨fn_spec_l28Good, good_spec_l28Good⟩, ⟨fn_spec_l28Text, good_spec_l28Text⟩, ⟨fn_spec_l1Cur_one, good_spec_l1Cur_one⟩, ⟨fn_spec_l1Cur_spoilt, good_spec_l1Cur_spoilt⟩, trivial⟩), (run_spec_DrawParseWord big x).trans h⟩

/-! types of spec_l28Read -/
def T_spec_l28Read (self : ((List UInt8) × (Int × Unit)) → Option (((List Int) × (Int × Unit)) × Unit)) : Sig := { a := (.pair .str (.pair I .unit)), md := [0, 0], mf := [], m := .unit, r := (.tup (.pair (.sl I) (.pair I .unit))), rf := (.p (.o .i) .i), f := self }

/-! spec_l28Read -/
def spec_l28Read_s (self_spec_l28Read : ((List UInt8) × (Int × Unit)) → Option (((List Int) × (Int × Unit)) × Unit)) (s_0 : (List UInt8)) (at_1 : Int) : Option (((List Int) × (Int × Unit)) × Unit) :=
  cond (decide ((s_0.length : Int) ≤ at_1))
  (some (([], (-1 : Int), ()), (())))
  ((atI s_0 at_1).bind fun xq1 =>
  (spec_l1In (IntKind.i64.wrap (xq1.toNat : Int)) (97 : Int) (101 : Int)).bind fun rq2 =>
  cond rq2.1
  ((atI s_0 at_1).bind fun xq3 =>
  some (([IntKind.i64.wrap (IntKind.u8.wrap ((xq3.toNat : Int) - (97 : Int)))], IntKind.i64.wrap (at_1 + (1 : Int)), ()), (())))
  ((atI s_0 at_1).bind fun xq4 =>
  cond (decide ((xq4.toNat : Int) ≠ (40 : Int)))
  (some (([], (-1 : Int), ()), (())))
  ((self_spec_l28Read (s_0, IntKind.i64.wrap (at_1 + (1 : Int)), ())).bind fun rq5 =>
  cond (decide (((((), rq5.1.2).2).1) < (0 : Int)))
  (some (([], (-1 : Int), ()), (())))
  (cond (decide ((s_0.length : Int) ≤ ((((), rq5.1.2).2).1)))
  (some (([], (-1 : Int), ()), (())))
  ((atI s_0 ((((), rq5.1.2).2).1)).bind fun xq6 =>
  cond (decide ((xq6.toNat : Int) ≠ (38 : Int)))
  ((atI s_0 ((((), rq5.1.2).2).1)).bind fun xq7 =>
  cond (decide ((xq7.toNat : Int) ≠ (124 : Int)))
  (some (([], (-1 : Int), ()), (())))
  ((atI s_0 ((((), rq5.1.2).2).1)).bind fun xq8 =>
  cond (decide ((xq8.toNat : Int) = (124 : Int)))
  ((self_spec_l28Read (s_0, IntKind.i64.wrap (((((), rq5.1.2).2).1) + (1 : Int)), ())).bind fun rq9 =>
  cond (decide (((((), rq9.1.2).2).1) < (0 : Int)))
  (some (([], (-1 : Int), ()), (())))
  (cond (decide ((s_0.length : Int) ≤ ((((), rq9.1.2).2).1)))
  (some (([], (-1 : Int), ()), (())))
  ((atI s_0 ((((), rq9.1.2).2).1)).bind fun xq10 =>
  cond (decide ((xq10.toNat : Int) ≠ (41 : Int)))
  (some (([], (-1 : Int), ()), (())))
  ((appI [(-2 : Int)] rq5.1.1).bind fun xq11 =>
  (appI xq11 rq9.1.1).bind fun xq12 =>
  some ((xq12, IntKind.i64.wrap (((((), rq9.1.2).2).1) + (1 : Int)), ()), (()))))))
  ((self_spec_l28Read (s_0, IntKind.i64.wrap (((((), rq5.1.2).2).1) + (1 : Int)), ())).bind fun rq13 =>
  cond (decide (((((), rq13.1.2).2).1) < (0 : Int)))
  (some (([], (-1 : Int), ()), (())))
  (cond (decide ((s_0.length : Int) ≤ ((((), rq13.1.2).2).1)))
  (some (([], (-1 : Int), ()), (())))
  ((atI s_0 ((((), rq13.1.2).2).1)).bind fun xq14 =>
  cond (decide ((xq14.toNat : Int) ≠ (41 : Int)))
  (some (([], (-1 : Int), ()), (())))
  ((appI [(-1 : Int)] rq5.1.1).bind fun xq15 =>
  (appI xq15 rq13.1.1).bind fun xq16 =>
  some ((xq16, IntKind.i64.wrap (((((), rq13.1.2).2).1) + (1 : Int)), ()), (()))))))))
  ((atI s_0 ((((), rq5.1.2).2).1)).bind fun xq17 =>
  cond (decide ((xq17.toNat : Int) = (124 : Int)))
  ((self_spec_l28Read (s_0, IntKind.i64.wrap (((((), rq5.1.2).2).1) + (1 : Int)), ())).bind fun rq18 =>
  cond (decide (((((), rq18.1.2).2).1) < (0 : Int)))
  (some (([], (-1 : Int), ()), (())))
  (cond (decide ((s_0.length : Int) ≤ ((((), rq18.1.2).2).1)))
  (some (([], (-1 : Int), ()), (())))
  ((atI s_0 ((((), rq18.1.2).2).1)).bind fun xq19 =>
  cond (decide ((xq19.toNat : Int) ≠ (41 : Int)))
  (some (([], (-1 : Int), ()), (())))
  ((appI [(-2 : Int)] rq5.1.1).bind fun xq20 =>
  (appI xq20 rq18.1.1).bind fun xq21 =>
  some ((xq21, IntKind.i64.wrap (((((), rq18.1.2).2).1) + (1 : Int)), ()), (()))))))
  ((self_spec_l28Read (s_0, IntKind.i64.wrap (((((), rq5.1.2).2).1) + (1 : Int)), ())).bind fun rq22 =>
  cond (decide (((((), rq22.1.2).2).1) < (0 : Int)))
  (some (([], (-1 : Int), ()), (())))
  (cond (decide ((s_0.length : Int) ≤ ((((), rq22.1.2).2).1)))
  (some (([], (-1 : Int), ()), (())))
  ((atI s_0 ((((), rq22.1.2).2).1)).bind fun xq23 =>
  cond (decide ((xq23.toNat : Int) ≠ (41 : Int)))
  (some (([], (-1 : Int), ()), (())))
  ((appI [(-1 : Int)] rq5.1.1).bind fun xq24 =>
  (appI xq24 rq22.1.1).bind fun xq25 =>
  some ((xq25, IntKind.i64.wrap (((((), rq22.1.2).2).1) + (1 : Int)), ()), (()))))))))))))
def spec_l28Read (self_spec_l28Read : ((List UInt8) × (Int × Unit)) → Option (((List Int) × (Int × Unit)) × Unit)) (s_0 : (List UInt8)) (at_1 : Int) : Option (((List Int) × (Int × Unit)) × Unit) := spec_l28Read_s self_spec_l28Read s_0 at_1
def A_spec_l28Read (self_spec_l28Read : ((List UInt8) × (Int × Unit)) → Option (((List Int) × (Int × Unit)) × Unit)) : Cfg := mkCfg tab [(36, S_spec_l1In), (32, T_spec_l28Read self_spec_l28Read)] []
theorem run_spec_l28Read (self_spec_l28Read : ((List UInt8) × (Int × Unit)) → Option (((List Int) × (Int × Unit)) × Unit)) (N : Nat) (x : ((T_spec_l28Read self_spec_l28Read)).a.den) : runF (A_spec_l28Read self_spec_l28Read) N Try.f32 (T_spec_l28Read self_spec_l28Read) x = spec_l28Read self_spec_l28Read x.1 x.2.1 := by kernel_rfl
theorem fn_spec_l28Read : FnOk Try.prog 32 := ⟨_, Try.func32, by kernel_rfl, by kernel_rfl⟩

/-! recursion -/
def R_spec_l28Read : Nat → ((List UInt8) × (Int × Unit)) → Option (((List Int) × (Int × Unit)) × Unit)
  | 0, _ => none
  | d + 1, x => spec_l28Read (R_spec_l28Read d) x.1 x.2.1
def S_spec_l28Read : Sig := T_spec_l28Read (R_spec_l28Read big)
theorem goodR_spec_l28Read : ∀ d, Gx.Good Try.prog 32 (T_spec_l28Read (R_spec_l28Read d))
  | 0 => fun x r h => by cases h
  | d + 1 => good_of_run Try.func32 (of_decide_eq_true (by kernel_rfl)) fun x r h => ⟨A_spec_l28Read (R_spec_l28Read d), big, mkCfg_ok tabOk, mkCfg_sigs (show SigsOk Try.prog [(36, S_spec_l1In), (32, T_spec_l28Read (R_spec_l28Read d))] from ⟨⟨fn_spec_l1In, good_spec_l1In⟩, ⟨fn_spec_l28Read, goodR_spec_l28Read d⟩, trivial⟩), (run_spec_l28Read (R_spec_l28Read d) big x).trans h⟩
theorem good_spec_l28Read : Gx.Good Try.prog 32 S_spec_l28Read := goodR_spec_l28Read big

/-! spec_ParseWord -/
def spec_ParseWord_s (s_0 : (List UInt8)) : Option (((List Int) × (Bool × Unit)) × Unit) :=
  cond (decide ((160 : Int) < (s_0.length : Int)))
  (some (([], false, ()), (())))
  ((R_spec_l28Read big (s_0, (0 : Int), ())).bind fun rq1 =>
  cond (decide (((((), rq1.1.2).2).1) ≠ (s_0.length : Int)))
  (some (([], false, ()), (())))
  ((spec_l28Good rq1.1.1).bind fun rq2 =>
  cond (!rq2.1)
  (some (([], false, ()), (())))
  (some ((rq1.1.1, true, ()), (())))))
def spec_ParseWord (s_0 : (List UInt8)) : Option (((List Int) × (Bool × Unit)) × Unit) := spec_ParseWord_s s_0
def S_spec_ParseWord : Sig := { a := (.pair .str .unit), md := [0], mf := [], m := .unit, r := (.tup (.pair (.sl I) (.pair .bool .unit))), rf := (.p (.o .i) .i), f := fun x => spec_ParseWord x.1 }
def A_spec_ParseWord : Cfg := mkCfg tab [(32, S_spec_l28Read), (22, S_spec_l28Good)] []
theorem run_spec_ParseWord (N : Nat) (x : (S_spec_ParseWord).a.den) : runF (A_spec_ParseWord) N Try.f14 S_spec_ParseWord x = spec_ParseWord x.1 := by kernel_rfl
theorem fn_spec_ParseWord : FnOk Try.prog 14 := ⟨_, Try.func14, by kernel_rfl, by kernel_rfl⟩
theorem good_spec_ParseWord : Gx.Good Try.prog 14 S_spec_ParseWord := good_of_run Try.func14 (of_decide_eq_true (by kernel_rfl)) fun x r h => ⟨A_spec_ParseWord, big, mkCfg_ok tabOk, mkCfg_sigs (show SigsOk Try.prog [(32, S_spec_l28Read), (22, S_spec_l28Good)] from ⟨⟨fn_spec_l28Read, good_spec_l28Read⟩, ⟨fn_spec_l28Good, good_spec_l28Good⟩, trivial⟩), (run_spec_ParseWord big x).trans h⟩

/-! spec_DrawSubstituteWord -/
def spec_DrawSubstituteWord_s (code_0 : (List Int)) : Option (((List Int) × (Int × ((List Int) × Unit))) × Unit) :=
  (spec_l1Cur_word big (code_0, ((0 : Int), ((0 : Int), ())))).bind fun rq1 =>
  (spec_l1Cur_pick rq1.2.1 (24 : Int)).bind fun rq2 =>
  (quoI IntKind.i64 rq2.1 (11 : Int)).bind fun xq3 =>
  (slI [(0 : Int), (1 : Int), (2 : Int), (4 : Int), (-1 : Int), (5 : Int)] 0 (IntKind.i64.wrap ((4 : Int) + xq3))).bind fun xq4 =>
  (spec_l1Cur_among rq2.2.1 xq4).bind fun rq5 =>
  (spec_l1Cur_word big rq5.2.1).bind fun rq6 =>
  some ((rq1.1, rq5.1, rq6.1, ()), (()))
def spec_DrawSubstituteWord (code_0 : (List Int)) : Option (((List Int) × (Int × ((List Int) × Unit))) × Unit) := spec_DrawSubstituteWord_s code_0
def S_spec_DrawSubstituteWord : Sig := { a := (.pair (.sl (.int .u8)) .unit), md := [0], mf := [], m := .unit, r := (.tup (.pair (.sl I) (.pair I (.pair (.sl I) .unit)))), rf := .i, f := fun x => spec_DrawSubstituteWord x.1 }
def A_spec_DrawSubstituteWord : Cfg := mkCfg tab [(29, S_spec_l1Cur_word), (34, S_spec_l1Cur_pick), (33, S_spec_l1Cur_among)] []
theorem run_spec_DrawSubstituteWord (N : Nat) (x : (S_spec_DrawSubstituteWord).a.den) : runF (A_spec_DrawSubstituteWord) N Try.f15 S_spec_DrawSubstituteWord x = spec_DrawSubstituteWord x.1 := by kernel_rfl
theorem fn_spec_DrawSubstituteWord : FnOk Try.prog 15 := ⟨_, Try.func15, by kernel_rfl, by kernel_rfl⟩
theorem good_spec_DrawSubstituteWord : Gx.Good Try.prog 15 S_spec_DrawSubstituteWord := good_of_run Try.func15 (of_decide_eq_true (by kernel_rfl)) fun x r h => ⟨A_spec_DrawSubstituteWord, big, mkCfg_ok tabOk, mkCfg_sigs (show SigsOk Try.prog [(29, S_spec_l1Cur_word), (34, S_spec_l1Cur_pick), (33, S_spec_l1Cur_among)] from ⟨⟨fn_spec_l1Cur_word, good_spec_l1Cur_word⟩, ⟨fn_spec_l1Cur_pick, good_spec_l1Cur_pick⟩, ⟨fn_spec_l1Cur_among, good_spec_l1Cur_among⟩, trivial⟩), (run_spec_DrawSubstituteWord big x).trans h⟩

/-! spec_l28Two -/
def spec_l28Two_s (s_0 : (List Int)) (t_1 : (List Int)) : Option (Bool × Unit) :=
  (spec_l28Good s_0).bind fun rq1 =>
  cond rq1.1
  ((spec_l28Good t_1).bind fun rq2 =>
  some (rq2.1, (())))
  (some (false, (())))
def spec_l28Two (s_0 : (List Int)) (t_1 : (List Int)) : Option (Bool × Unit) := spec_l28Two_s s_0 t_1
def S_spec_l28Two : Sig := { a := (.pair (.sl I) (.pair (.sl I) .unit)), md := [0, 0], mf := [], m := .unit, r := .bool, rf := .i, f := fun x => spec_l28Two x.1 x.2.1 }
def A_spec_l28Two : Cfg := mkCfg tab [(22, S_spec_l28Good)] []
theorem run_spec_l28Two (N : Nat) (x : (S_spec_l28Two).a.den) : runF (A_spec_l28Two) N Try.f35 S_spec_l28Two x = spec_l28Two x.1 x.2.1 := by kernel_rfl
theorem fn_spec_l28Two : FnOk Try.prog 35 := ⟨_, Try.func35, by kernel_rfl, by kernel_rfl⟩
theorem good_spec_l28Two : Gx.Good Try.prog 35 S_spec_l28Two := good_of_run Try.func35 (of_decide_eq_true (by kernel_rfl)) fun x r h => ⟨A_spec_l28Two, big, mkCfg_ok tabOk, mkCfg_sigs (show SigsOk Try.prog [(22, S_spec_l28Good)] from ⟨⟨fn_spec_l28Good, good_spec_l28Good⟩, trivial⟩), (run_spec_l28Two big x).trans h⟩

/-! spec_l28Give -/
def spec_l28Give_s (w_0 : (List Int)) : Option (((List Int) × (Bool × Unit)) × Unit) :=
  (spec_l28Good w_0).bind fun rq1 =>
  cond (!rq1.1)
  (some (([], false, ()), (())))
  (some ((w_0, true, ()), (())))
def spec_l28Give (w_0 : (List Int)) : Option (((List Int) × (Bool × Unit)) × Unit) := spec_l28Give_s w_0
def S_spec_l28Give : Sig := { a := (.pair (.sl I) .unit), md := [0], mf := [], m := .unit, r := (.tup (.pair (.sl I) (.pair .bool .unit))), rf := .i, f := fun x => spec_l28Give x.1 }
def A_spec_l28Give : Cfg := mkCfg tab [(22, S_spec_l28Good)] []
theorem run_spec_l28Give (N : Nat) (x : (S_spec_l28Give).a.den) : runF (A_spec_l28Give) N Try.f37 S_spec_l28Give x = spec_l28Give x.1 := by kernel_rfl
theorem fn_spec_l28Give : FnOk Try.prog 37 := ⟨_, Try.func37, by kernel_rfl, by kernel_rfl⟩
theorem good_spec_l28Give : Gx.Good Try.prog 37 S_spec_l28Give := good_of_run Try.func37 (of_decide_eq_true (by kernel_rfl)) fun x r h => ⟨A_spec_l28Give, big, mkCfg_ok tabOk, mkCfg_sigs (show SigsOk Try.prog [(22, S_spec_l28Good)] from ⟨⟨fn_spec_l28Good, good_spec_l28Good⟩, trivial⟩), (run_spec_l28Give big x).trans h⟩

/-! spec_SubstituteWord -/
def spec_SubstituteWord_b5 (rec : (List Int) → Int → (List Int) → (List Int) → Int → Option (((List Int) × (Bool × Unit)) × Unit)) (k : (List Int) → Option (((List Int) × (Bool × Unit)) × Unit)) (w0 : (List Int)) (letter1 : Int) (s2 : (List Int)) (out8 : (List Int)) (i9 : Int) : Option (((List Int) × (Bool × Unit)) × Unit) :=
  cond (decide (i9 < (w0.length : Int)))
  ((atI w0 i9).bind fun xq3 =>
  cond (decide (xq3 = letter1))
  ((appI out8 s2).bind fun xq4 =>
  rec w0 letter1 s2 xq4 (IntKind.i64.wrap (i9 + (1 : Int))))
  ((atI w0 i9).bind fun xq5 =>
  (appI out8 [xq5]).bind fun xq6 =>
  rec w0 letter1 s2 xq6 (IntKind.i64.wrap (i9 + (1 : Int)))))
  (k out8)
def spec_SubstituteWord_a5 (out8 : (List Int)) : Option (((List Int) × (Bool × Unit)) × Unit) :=
  (spec_l28Give out8).bind fun rq7 =>
  some ((rq7.1.1, rq7.1.2.1, ()), (()))
def spec_SubstituteWord_s (L5 : (List Int) → Int → (List Int) → (List Int) → Int → Option (((List Int) × (Bool × Unit)) × Unit)) (w_0 : (List Int)) (letter_1 : Int) (s_2 : (List Int)) : Option (((List Int) × (Bool × Unit)) × Unit) :=
  (spec_l28Two w_0 s_2).bind fun rq1 =>
  cond (!rq1.1)
  (some (([], false, ()), (())))
  ((spec_l1In letter_1 (0 : Int) (4 : Int)).bind fun rq2 =>
  cond (!rq2.1)
  (some (([], false, ()), (())))
  (L5 w_0 letter_1 s_2 [] (0 : Int)))
def spec_SubstituteWord_l5 (N : Nat) (k : (List Int) → Option (((List Int) × (Bool × Unit)) × Unit)) : Nat → (List Int) → Int → (List Int) → (List Int) → Int → Option (((List Int) × (Bool × Unit)) × Unit)
  | 0, _, _, _, _, _ => none
  | m + 1, w0, letter1, s2, out8, i9 => spec_SubstituteWord_b5 (spec_SubstituteWord_l5 N k m) k w0 letter1 s2 out8 i9
def spec_SubstituteWord_F5 (N : Nat) (w0 : (List Int)) (letter1 : Int) (s2 : (List Int)) (out8 : (List Int)) (i9 : Int) : Option (((List Int) × (Bool × Unit)) × Unit) := spec_SubstituteWord_l5 N (spec_SubstituteWord_a5) N w0 letter1 s2 out8 i9
def spec_SubstituteWord (N : Nat) (w_0 : (List Int)) (letter_1 : Int) (s_2 : (List Int)) : Option (((List Int) × (Bool × Unit)) × Unit) := spec_SubstituteWord_s (spec_SubstituteWord_F5 N) w_0 letter_1 s_2
def S_spec_SubstituteWord : Sig := { a := (.pair (.sl I) (.pair I (.pair (.sl I) .unit))), md := [0, 0, 0], mf := [], m := .unit, r := (.tup (.pair (.sl I) (.pair .bool .unit))), rf := .i, f := fun x => spec_SubstituteWord big x.1 x.2.1 x.2.2.1 }
def A_spec_SubstituteWord : Cfg := mkCfg tab [(35, S_spec_l28Two), (36, S_spec_l1In), (37, S_spec_l28Give)] [(10, [.as (.sl I) .i, .as I .i, .as (.sl I) .i, .drop, .drop, .drop, .drop, .drop, .as (.sl I) (.o .i), .as I .i]), (21, [.drop, .drop, .drop, .drop, .drop, .drop, .drop, .drop, .as (.sl I) (.o .i)])]
noncomputable def spec_SubstituteWord_R5 (N n : Nat) (K : Ex → St → Option (((List Int) × (Bool × Unit)) × Unit)) (w0 : (List Int)) (letter1 : Int) (s2 : (List Int)) (out8 : (List Int)) (i9 : Int) : Option (((List Int) × (Bool × Unit)) × Unit) := iter ((A_spec_SubstituteWord).shape 10) (run (A_spec_SubstituteWord) N (codeAt Try.f16 [1, 1, 1, 0, 1, 0, 0])) n ([.val (.sl I) .i w0, .val I .i letter1, .val (.sl I) .i s2, .u, .u, .u, .u, .u, .val (.sl I) (.o .i) out8, .val I .i i9] ++ List.replicate 37 .u) K
noncomputable abbrev spec_SubstituteWord_z : Ex → St → Option (((List Int) × (Bool × Unit)) × Unit) := finish (A_spec_SubstituteWord) S_spec_SubstituteWord Try.f16.results.toList
noncomputable abbrev spec_SubstituteWord_X5 (kX : St → Option (((List Int) × (Bool × Unit)) × Unit)) : (List Int) → Option (((List Int) × (Bool × Unit)) × Unit) := fun (out8 : (List Int)) => kX ([.u, .u, .u, .u, .u, .u, .u, .u, .val (.sl I) (.o .i) out8] ++ List.replicate 38 .u)
noncomputable abbrev spec_SubstituteWord_E5 (kX : St → Option (((List Int) × (Bool × Unit)) × Unit)) (kO : Nat → St → Option (((List Int) × (Bool × Unit)) × Unit)) : Ex → St → Option (((List Int) × (Bool × Unit)) × Unit) := exK spec_SubstituteWord_z 0 ((A_spec_SubstituteWord).shape 21) kX kO
theorem spec_SubstituteWord_step5 (N : Nat) (m : Nat) (kX : St → Option (((List Int) × (Bool × Unit)) × Unit)) (kO : Nat → St → Option (((List Int) × (Bool × Unit)) × Unit)) (w0 : (List Int)) (letter1 : Int) (s2 : (List Int)) (out8 : (List Int)) (i9 : Int) : spec_SubstituteWord_R5 N (m + 1) (spec_SubstituteWord_E5 kX kO) w0 letter1 s2 out8 i9 = spec_SubstituteWord_b5 (spec_SubstituteWord_R5 N m (spec_SubstituteWord_E5 kX kO)) (spec_SubstituteWord_X5 kX) w0 letter1 s2 out8 i9 := by kernel_rfl
theorem spec_SubstituteWord_iter5 (N : Nat) (kX : St → Option (((List Int) × (Bool × Unit)) × Unit)) (kO : Nat → St → Option (((List Int) × (Bool × Unit)) × Unit)) : ∀ (n : Nat) (w0 : (List Int)) (letter1 : Int) (s2 : (List Int)) (out8 : (List Int)) (i9 : Int), spec_SubstituteWord_R5 N n (spec_SubstituteWord_E5 kX kO) w0 letter1 s2 out8 i9 = spec_SubstituteWord_l5 N (spec_SubstituteWord_X5 kX) n w0 letter1 s2 out8 i9
  | 0, _, _, _, _, _ => rfl
  | m + 1, w0, letter1, s2, out8, i9 => by
    have hrec : spec_SubstituteWord_R5 N m (spec_SubstituteWord_E5 kX kO) = (spec_SubstituteWord_l5 N (spec_SubstituteWord_X5 kX) m) := (funext fun w0 => (funext fun letter1 => (funext fun s2 => (funext fun out8 => (funext fun i9 => spec_SubstituteWord_iter5 N kX kO m w0 letter1 s2 out8 i9)))))
    refine (spec_SubstituteWord_step5 N m kX kO w0 letter1 s2 out8 i9).trans ?_
    rw [hrec]
    rfl
noncomputable abbrev spec_SubstituteWord_K5 (N : Nat) : Ex → St → Option (((List Int) × (Bool × Unit)) × Unit) := (blockK 0 (seqK ((A_spec_SubstituteWord).shape 21) (run (A_spec_SubstituteWord) N (codeAt Try.f16 [1, 1, 1, 1])) spec_SubstituteWord_z))
noncomputable abbrev spec_SubstituteWord_k5 (N : Nat) : St → Option (((List Int) × (Bool × Unit)) × Unit) := fun st' => run (A_spec_SubstituteWord) N (codeAt Try.f16 [1, 1, 1, 1]) st' spec_SubstituteWord_z
theorem spec_SubstituteWord_after5 (N : Nat) (out8 : (List Int)) : spec_SubstituteWord_X5 (spec_SubstituteWord_k5 N) out8 = spec_SubstituteWord_a5 out8 := by kernel_rfl
theorem spec_SubstituteWord_in5 (N : Nat) (w0 : (List Int)) (letter1 : Int) (s2 : (List Int)) (out8 : (List Int)) (i9 : Int) : spec_SubstituteWord_R5 N N (spec_SubstituteWord_K5 N) w0 letter1 s2 out8 i9 = spec_SubstituteWord_F5 N w0 letter1 s2 out8 i9 :=
  have h : spec_SubstituteWord_X5 (spec_SubstituteWord_k5 N) = (spec_SubstituteWord_a5) := (funext fun out8 => spec_SubstituteWord_after5 N out8)
  ((iter_ex (fun st => by kernel_rfl) (fun st => by kernel_rfl)).trans (spec_SubstituteWord_iter5 N (spec_SubstituteWord_k5 N) (fun j st => (spec_SubstituteWord_K5 N) (.exit j) st) N w0 letter1 s2 out8 i9)).trans (congrArg (fun k => spec_SubstituteWord_l5 N k N w0 letter1 s2 out8 i9) h)
theorem run0_spec_SubstituteWord (N : Nat) (x : (S_spec_SubstituteWord).a.den) : runF (A_spec_SubstituteWord) N Try.f16 S_spec_SubstituteWord x = (spec_SubstituteWord_s (spec_SubstituteWord_R5 N N (spec_SubstituteWord_K5 N)) x.1 x.2.1 x.2.2.1) := by kernel_rfl
theorem run_spec_SubstituteWord (N : Nat) (x : (S_spec_SubstituteWord).a.den) : runF (A_spec_SubstituteWord) N Try.f16 S_spec_SubstituteWord x = spec_SubstituteWord N x.1 x.2.1 x.2.2.1 := by
  refine (run0_spec_SubstituteWord N x).trans ?_
  rw [(funext fun w0 => (funext fun letter1 => (funext fun s2 => (funext fun out8 => (funext fun i9 => spec_SubstituteWord_in5 N w0 letter1 s2 out8 i9)))))]
  rfl
theorem fn_spec_SubstituteWord : FnOk Try.prog 16 := ⟨_, Try.func16, by kernel_rfl, by kernel_rfl⟩
theorem good_spec_SubstituteWord : Gx.Good Try.prog 16 S_spec_SubstituteWord := good_of_run Try.func16 (of_decide_eq_true (by kernel_rfl)) fun x r h => ⟨A_spec_SubstituteWord, big, mkCfg_ok tabOk, mkCfg_sigs (show SigsOk Try.prog [(35, S_spec_l28Two), (36, S_spec_l1In), (37, S_spec_l28Give)] from ⟨⟨fn_spec_l28Two, good_spec_l28Two⟩, ⟨fn_spec_l1In, good_spec_l1In⟩, ⟨fn_spec_l28Give, good_spec_l28Give⟩, trivial⟩), (run_spec_SubstituteWord big x).trans h⟩

/-! spec_DrawWordBelow -/
def spec_DrawWordBelow_s (code_0 : (List Int)) : Option (((List Int) × ((List Int) × Unit)) × Unit) :=
  (spec_l1Cur_word big (code_0, ((0 : Int), ((0 : Int), ())))).bind fun rq1 =>
  (spec_l1Cur_word big rq1.2.1).bind fun rq2 =>
  (spec_l28Two rq1.1 rq2.1).bind fun rq3 =>
  cond rq3.1
  ((spec_l1Cur_pick rq2.2.1 (4 : Int)).bind fun rq4 =>
  cond (decide (rq4.1 = (0 : Int)))
  ((spec_l28Put (-1 : Int) rq1.1 rq2.1).bind fun rq5 =>
  some ((rq5.1, rq2.1, ()), (())))
  (cond (decide (rq4.1 = (1 : Int)))
  ((spec_l28Put (-2 : Int) rq2.1 rq1.1).bind fun rq6 =>
  some ((rq1.1, rq6.1, ()), (())))
  (some ((rq1.1, rq2.1, ()), (())))))
  (some ((rq1.1, rq2.1, ()), (())))
def spec_DrawWordBelow (code_0 : (List Int)) : Option (((List Int) × ((List Int) × Unit)) × Unit) := spec_DrawWordBelow_s code_0
def S_spec_DrawWordBelow : Sig := { a := (.pair (.sl (.int .u8)) .unit), md := [0], mf := [], m := .unit, r := (.tup (.pair (.sl I) (.pair (.sl I) .unit))), rf := .i, f := fun x => spec_DrawWordBelow x.1 }
def A_spec_DrawWordBelow : Cfg := mkCfg tab [(29, S_spec_l1Cur_word), (35, S_spec_l28Two), (34, S_spec_l1Cur_pick), (38, S_spec_l28Put)] []
theorem run_spec_DrawWordBelow (N : Nat) (x : (S_spec_DrawWordBelow).a.den) : runF (A_spec_DrawWordBelow) N Try.f17 S_spec_DrawWordBelow x = spec_DrawWordBelow x.1 := by kernel_rfl
theorem fn_spec_DrawWordBelow : FnOk Try.prog 17 := ⟨_, Try.func17, by kernel_rfl, by kernel_rfl⟩
theorem good_spec_DrawWordBelow : Gx.Good Try.prog 17 S_spec_DrawWordBelow := good_of_run Try.func17 (of_decide_eq_true (by kernel_rfl)) fun x r h => ⟨A_spec_DrawWordBelow, big, mkCfg_ok tabOk, mkCfg_sigs (show SigsOk Try.prog [(29, S_spec_l1Cur_word), (35, S_spec_l28Two), (34, S_spec_l1Cur_pick), (38, S_spec_l28Put)] from ⟨⟨fn_spec_l1Cur_word, good_spec_l1Cur_word⟩, ⟨fn_spec_l28Two, good_spec_l28Two⟩, ⟨fn_spec_l1Cur_pick, good_spec_l1Cur_pick⟩, ⟨fn_spec_l28Put, good_spec_l28Put⟩, trivial⟩), (run_spec_DrawWordBelow big x).trans h⟩

/-! types of impl_comparer_below+impl_comparer_decide -/
def T_impl_comparer_below (self : (((List Int) × ((List Int) × ((List ((Int × (Int × Unit)) × Bool)) × Unit))) × (Int × (Int × Unit))) → Option (Bool × (((List Int) × ((List Int) × ((List ((Int × (Int × Unit)) × Bool)) × Unit))) × Unit))) : Sig := { a := (.pair (.ptr (.pair (.sl I) (.pair (.sl I) (.pair (.map (.pair I (.pair I .unit)) .bool) .unit)))) (.pair I (.pair I .unit))), md := [1, 0, 0], mf := [(.o (.p .i (.p .i (.p (.o .i) .i))))], m := (.pair (.ptr (.pair (.sl I) (.pair (.sl I) (.pair (.map (.pair I (.pair I .unit)) .bool) .unit)))) .unit), r := .bool, rf := .i, f := self }
def T_impl_comparer_decide (self : (((List Int) × ((List Int) × ((List ((Int × (Int × Unit)) × Bool)) × Unit))) × (Int × (Int × Unit))) → Option (Bool × (((List Int) × ((List Int) × ((List ((Int × (Int × Unit)) × Bool)) × Unit))) × Unit))) : Sig := { a := (.pair (.ptr (.pair (.sl I) (.pair (.sl I) (.pair (.map (.pair I (.pair I .unit)) .bool) .unit)))) (.pair I (.pair I .unit))), md := [1, 0, 0], mf := [(.o (.p .i (.p .i (.p (.o .i) .i))))], m := (.pair (.ptr (.pair (.sl I) (.pair (.sl I) (.pair (.map (.pair I (.pair I .unit)) .bool) .unit)))) .unit), r := .bool, rf := .i, f := self }

/-! impl_comparer_below -/
def impl_comparer_below_s (self_impl_comparer_below : (((List Int) × ((List Int) × ((List ((Int × (Int × Unit)) × Bool)) × Unit))) × (Int × (Int × Unit))) → Option (Bool × (((List Int) × ((List Int) × ((List ((Int × (Int × Unit)) × Bool)) × Unit))) × Unit))) (self_impl_comparer_decide : (((List Int) × ((List Int) × ((List ((Int × (Int × Unit)) × Bool)) × Unit))) × (Int × (Int × Unit))) → Option (Bool × (((List Int) × ((List Int) × ((List ((Int × (Int × Unit)) × Bool)) × Unit))) × Unit))) (c_0 : ((List Int) × ((List Int) × ((List ((Int × (Int × Unit)) × Bool)) × Unit)))) (i_1 : Int) (k_2 : Int) : Option (Bool × (((List Int) × ((List Int) × ((List ((Int × (Int × Unit)) × Bool)) × Unit))) × Unit)) :=
  cond (!(((Option.getD (mget (.pair I (.pair I .unit)) .bool c_0.2.2.1 (i_1, (k_2, ()))) false, (Option.isSome (mget (.pair I (.pair I .unit)) .bool c_0.2.2.1 (i_1, (k_2, ()))), ())).2).1))
  ((self_impl_comparer_decide (c_0, i_1, k_2, ())).bind fun rq1 =>
  some (rq1.1, ((rq1.2.1.1, (rq1.2.1.2.1, (mput (.pair I (.pair I .unit)) .bool rq1.2.1.2.2.1 (i_1, (k_2, ())) rq1.1, rq1.2.1.2.2.2))), ())))
  (some ((Option.getD (mget (.pair I (.pair I .unit)) .bool c_0.2.2.1 (i_1, (k_2, ()))) false, (Option.isSome (mget (.pair I (.pair I .unit)) .bool c_0.2.2.1 (i_1, (k_2, ()))), ())).1, (c_0, ())))
def impl_comparer_below (self_impl_comparer_below : (((List Int) × ((List Int) × ((List ((Int × (Int × Unit)) × Bool)) × Unit))) × (Int × (Int × Unit))) → Option (Bool × (((List Int) × ((List Int) × ((List ((Int × (Int × Unit)) × Bool)) × Unit))) × Unit))) (self_impl_comparer_decide : (((List Int) × ((List Int) × ((List ((Int × (Int × Unit)) × Bool)) × Unit))) × (Int × (Int × Unit))) → Option (Bool × (((List Int) × ((List Int) × ((List ((Int × (Int × Unit)) × Bool)) × Unit))) × Unit))) (c_0 : ((List Int) × ((List Int) × ((List ((Int × (Int × Unit)) × Bool)) × Unit)))) (i_1 : Int) (k_2 : Int) : Option (Bool × (((List Int) × ((List Int) × ((List ((Int × (Int × Unit)) × Bool)) × Unit))) × Unit)) := impl_comparer_below_s self_impl_comparer_below self_impl_comparer_decide c_0 i_1 k_2
def A_impl_comparer_below (self_impl_comparer_below : (((List Int) × ((List Int) × ((List ((Int × (Int × Unit)) × Bool)) × Unit))) × (Int × (Int × Unit))) → Option (Bool × (((List Int) × ((List Int) × ((List ((Int × (Int × Unit)) × Bool)) × Unit))) × Unit))) (self_impl_comparer_decide : (((List Int) × ((List Int) × ((List ((Int × (Int × Unit)) × Bool)) × Unit))) × (Int × (Int × Unit))) → Option (Bool × (((List Int) × ((List Int) × ((List ((Int × (Int × Unit)) × Bool)) × Unit))) × Unit))) : Cfg := mkCfg tab [(50, T_impl_comparer_decide self_impl_comparer_decide)] []
theorem run_impl_comparer_below (self_impl_comparer_below : (((List Int) × ((List Int) × ((List ((Int × (Int × Unit)) × Bool)) × Unit))) × (Int × (Int × Unit))) → Option (Bool × (((List Int) × ((List Int) × ((List ((Int × (Int × Unit)) × Bool)) × Unit))) × Unit))) (self_impl_comparer_decide : (((List Int) × ((List Int) × ((List ((Int × (Int × Unit)) × Bool)) × Unit))) × (Int × (Int × Unit))) → Option (Bool × (((List Int) × ((List Int) × ((List ((Int × (Int × Unit)) × Bool)) × Unit))) × Unit))) (N : Nat) (x : ((T_impl_comparer_below self_impl_comparer_below)).a.den) : runF (A_impl_comparer_below self_impl_comparer_below self_impl_comparer_decide) N Try.f48 (T_impl_comparer_below self_impl_comparer_below) x = impl_comparer_below self_impl_comparer_below self_impl_comparer_decide x.1 x.2.1 x.2.2.1 := by kernel_rfl
theorem fn_impl_comparer_below : FnOk Try.prog 48 := ⟨_, Try.func48, by kernel_rfl, by kernel_rfl⟩

/-! impl_comparer_decide -/
def impl_comparer_decide_s (self_impl_comparer_below : (((List Int) × ((List Int) × ((List ((Int × (Int × Unit)) × Bool)) × Unit))) × (Int × (Int × Unit))) → Option (Bool × (((List Int) × ((List Int) × ((List ((Int × (Int × Unit)) × Bool)) × Unit))) × Unit))) (self_impl_comparer_decide : (((List Int) × ((List Int) × ((List ((Int × (Int × Unit)) × Bool)) × Unit))) × (Int × (Int × Unit))) → Option (Bool × (((List Int) × ((List Int) × ((List ((Int × (Int × Unit)) × Bool)) × Unit))) × Unit))) (c_0 : ((List Int) × ((List Int) × ((List ((Int × (Int × Unit)) × Bool)) × Unit)))) (i_1 : Int) (k_2 : Int) : Option (Bool × (((List Int) × ((List Int) × ((List ((Int × (Int × Unit)) × Bool)) × Unit))) × Unit)) :=
  (atI c_0.1 i_1).bind fun xq1 =>
  (atI c_0.2.1 k_2).bind fun xq2 =>
  cond (decide (xq1 = (-2 : Int)))
  ((self_impl_comparer_below (c_0, IntKind.i64.wrap (i_1 + (1 : Int)), k_2, ())).bind fun rq3 =>
  cond rq3.1
  ((impl_wordEnd big rq3.2.1.1 (IntKind.i64.wrap (i_1 + (1 : Int)))).bind fun rq4 =>
  (self_impl_comparer_below (rq3.2.1, rq4.1, k_2, ())).bind fun rq5 =>
  some (rq5.1, (rq5.2.1, ())))
  (some (false, (rq3.2.1, ()))))
  (cond (decide (xq2 = (-1 : Int)))
  ((self_impl_comparer_below (c_0, i_1, IntKind.i64.wrap (k_2 + (1 : Int)), ())).bind fun rq6 =>
  cond rq6.1
  ((impl_wordEnd big rq6.2.1.2.1 (IntKind.i64.wrap (k_2 + (1 : Int)))).bind fun rq7 =>
  (self_impl_comparer_below (rq6.2.1, i_1, rq7.1, ())).bind fun rq8 =>
  some (rq8.1, (rq8.2.1, ())))
  (some (false, (rq6.2.1, ()))))
  (cond (decide ((0 : Int) ≤ xq1))
  (cond (decide ((0 : Int) ≤ xq2))
  (some (decide (xq1 = xq2), (c_0, ())))
  (cond (decide (xq1 = (-1 : Int)))
  ((self_impl_comparer_below (c_0, IntKind.i64.wrap (i_1 + (1 : Int)), k_2, ())).bind fun rq9 =>
  cond rq9.1
  (some (true, (rq9.2.1, ())))
  ((impl_wordEnd big rq9.2.1.1 (IntKind.i64.wrap (i_1 + (1 : Int)))).bind fun rq10 =>
  (self_impl_comparer_below (rq9.2.1, rq10.1, k_2, ())).bind fun rq11 =>
  cond rq11.1
  (some (true, (rq11.2.1, ())))
  (cond (decide (xq2 = (-2 : Int)))
  ((self_impl_comparer_below (rq11.2.1, i_1, IntKind.i64.wrap (k_2 + (1 : Int)), ())).bind fun rq12 =>
  cond rq12.1
  (some (true, (rq12.2.1, ())))
  ((impl_wordEnd big rq12.2.1.2.1 (IntKind.i64.wrap (k_2 + (1 : Int)))).bind fun rq13 =>
  (self_impl_comparer_below (rq12.2.1, i_1, rq13.1, ())).bind fun rq14 =>
  some (rq14.1, (rq14.2.1, ()))))
  (some (false, (rq11.2.1, ()))))))
  (cond (decide (xq2 = (-2 : Int)))
  ((self_impl_comparer_below (c_0, i_1, IntKind.i64.wrap (k_2 + (1 : Int)), ())).bind fun rq15 =>
  cond rq15.1
  (some (true, (rq15.2.1, ())))
  ((impl_wordEnd big rq15.2.1.2.1 (IntKind.i64.wrap (k_2 + (1 : Int)))).bind fun rq16 =>
  (self_impl_comparer_below (rq15.2.1, i_1, rq16.1, ())).bind fun rq17 =>
  some (rq17.1, (rq17.2.1, ()))))
  (some (false, (c_0, ()))))))
  (cond (decide (xq1 = (-1 : Int)))
  ((self_impl_comparer_below (c_0, IntKind.i64.wrap (i_1 + (1 : Int)), k_2, ())).bind fun rq18 =>
  cond rq18.1
  (some (true, (rq18.2.1, ())))
  ((impl_wordEnd big rq18.2.1.1 (IntKind.i64.wrap (i_1 + (1 : Int)))).bind fun rq19 =>
  (self_impl_comparer_below (rq18.2.1, rq19.1, k_2, ())).bind fun rq20 =>
  cond rq20.1
  (some (true, (rq20.2.1, ())))
  (cond (decide (xq2 = (-2 : Int)))
  ((self_impl_comparer_below (rq20.2.1, i_1, IntKind.i64.wrap (k_2 + (1 : Int)), ())).bind fun rq21 =>
  cond rq21.1
  (some (true, (rq21.2.1, ())))
  ((impl_wordEnd big rq21.2.1.2.1 (IntKind.i64.wrap (k_2 + (1 : Int)))).bind fun rq22 =>
  (self_impl_comparer_below (rq21.2.1, i_1, rq22.1, ())).bind fun rq23 =>
  some (rq23.1, (rq23.2.1, ()))))
  (some (false, (rq20.2.1, ()))))))
  (cond (decide (xq2 = (-2 : Int)))
  ((self_impl_comparer_below (c_0, i_1, IntKind.i64.wrap (k_2 + (1 : Int)), ())).bind fun rq24 =>
  cond rq24.1
  (some (true, (rq24.2.1, ())))
  ((impl_wordEnd big rq24.2.1.2.1 (IntKind.i64.wrap (k_2 + (1 : Int)))).bind fun rq25 =>
  (self_impl_comparer_below (rq24.2.1, i_1, rq25.1, ())).bind fun rq26 =>
  some (rq26.1, (rq26.2.1, ()))))
  (some (false, (c_0, ())))))))
def impl_comparer_decide (self_impl_comparer_below : (((List Int) × ((List Int) × ((List ((Int × (Int × Unit)) × Bool)) × Unit))) × (Int × (Int × Unit))) → Option (Bool × (((List Int) × ((List Int) × ((List ((Int × (Int × Unit)) × Bool)) × Unit))) × Unit))) (self_impl_comparer_decide : (((List Int) × ((List Int) × ((List ((Int × (Int × Unit)) × Bool)) × Unit))) × (Int × (Int × Unit))) → Option (Bool × (((List Int) × ((List Int) × ((List ((Int × (Int × Unit)) × Bool)) × Unit))) × Unit))) (c_0 : ((List Int) × ((List Int) × ((List ((Int × (Int × Unit)) × Bool)) × Unit)))) (i_1 : Int) (k_2 : Int) : Option (Bool × (((List Int) × ((List Int) × ((List ((Int × (Int × Unit)) × Bool)) × Unit))) × Unit)) := impl_comparer_decide_s self_impl_comparer_below self_impl_comparer_decide c_0 i_1 k_2
def A_impl_comparer_decide (self_impl_comparer_below : (((List Int) × ((List Int) × ((List ((Int × (Int × Unit)) × Bool)) × Unit))) × (Int × (Int × Unit))) → Option (Bool × (((List Int) × ((List Int) × ((List ((Int × (Int × Unit)) × Bool)) × Unit))) × Unit))) (self_impl_comparer_decide : (((List Int) × ((List Int) × ((List ((Int × (Int × Unit)) × Bool)) × Unit))) × (Int × (Int × Unit))) → Option (Bool × (((List Int) × ((List Int) × ((List ((Int × (Int × Unit)) × Bool)) × Unit))) × Unit))) : Cfg := mkCfg tab [(48, T_impl_comparer_below self_impl_comparer_below), (40, S_impl_wordEnd)] []
theorem run_impl_comparer_decide (self_impl_comparer_below : (((List Int) × ((List Int) × ((List ((Int × (Int × Unit)) × Bool)) × Unit))) × (Int × (Int × Unit))) → Option (Bool × (((List Int) × ((List Int) × ((List ((Int × (Int × Unit)) × Bool)) × Unit))) × Unit))) (self_impl_comparer_decide : (((List Int) × ((List Int) × ((List ((Int × (Int × Unit)) × Bool)) × Unit))) × (Int × (Int × Unit))) → Option (Bool × (((List Int) × ((List Int) × ((List ((Int × (Int × Unit)) × Bool)) × Unit))) × Unit))) (N : Nat) (x : ((T_impl_comparer_decide self_impl_comparer_decide)).a.den) : runF (A_impl_comparer_decide self_impl_comparer_below self_impl_comparer_decide) N Try.f50 (T_impl_comparer_decide self_impl_comparer_decide) x = impl_comparer_decide self_impl_comparer_below self_impl_comparer_decide x.1 x.2.1 x.2.2.1 := by kernel_rfl
theorem fn_impl_comparer_decide : FnOk Try.prog 50 := ⟨_, Try.func50, by kernel_rfl, by kernel_rfl⟩

/-! recursion -/
def RR_impl_comparer_below_impl_comparer_decide : Nat → ((((List Int) × ((List Int) × ((List ((Int × (Int × Unit)) × Bool)) × Unit))) × (Int × (Int × Unit))) → Option (Bool × (((List Int) × ((List Int) × ((List ((Int × (Int × Unit)) × Bool)) × Unit))) × Unit))) × ((((List Int) × ((List Int) × ((List ((Int × (Int × Unit)) × Bool)) × Unit))) × (Int × (Int × Unit))) → Option (Bool × (((List Int) × ((List Int) × ((List ((Int × (Int × Unit)) × Bool)) × Unit))) × Unit)))
  | 0 => (fun _ => none, fun _ => none)
  | d + 1 => (fun x => impl_comparer_below (RR_impl_comparer_below_impl_comparer_decide d).1 (RR_impl_comparer_below_impl_comparer_decide d).2 x.1 x.2.1 x.2.2.1, fun x => impl_comparer_decide (RR_impl_comparer_below_impl_comparer_decide d).1 (RR_impl_comparer_below_impl_comparer_decide d).2 x.1 x.2.1 x.2.2.1)
def R_impl_comparer_below (d : Nat) : (((List Int) × ((List Int) × ((List ((Int × (Int × Unit)) × Bool)) × Unit))) × (Int × (Int × Unit))) → Option (Bool × (((List Int) × ((List Int) × ((List ((Int × (Int × Unit)) × Bool)) × Unit))) × Unit)) := (RR_impl_comparer_below_impl_comparer_decide d).1
def S_impl_comparer_below : Sig := T_impl_comparer_below (R_impl_comparer_below big)
def R_impl_comparer_decide (d : Nat) : (((List Int) × ((List Int) × ((List ((Int × (Int × Unit)) × Bool)) × Unit))) × (Int × (Int × Unit))) → Option (Bool × (((List Int) × ((List Int) × ((List ((Int × (Int × Unit)) × Bool)) × Unit))) × Unit)) := (RR_impl_comparer_below_impl_comparer_decide d).2
def S_impl_comparer_decide : Sig := T_impl_comparer_decide (R_impl_comparer_decide big)
theorem goodRR_impl_comparer_below_impl_comparer_decide : ∀ d, Gx.Good Try.prog 48 (T_impl_comparer_below (R_impl_comparer_below d)) ∧ Gx.Good Try.prog 50 (T_impl_comparer_decide (R_impl_comparer_decide d))
  | 0 => ⟨(fun x r h => by cases (show (none : Option _) = some r from h)), (fun x r h => by cases (show (none : Option _) = some r from h))⟩
  | d + 1 => ⟨(good_of_run Try.func48 (of_decide_eq_true (by kernel_rfl)) fun x r h => ⟨A_impl_comparer_below (R_impl_comparer_below d) (R_impl_comparer_decide d), big, mkCfg_ok tabOk, mkCfg_sigs (show SigsOk Try.prog [(50, T_impl_comparer_decide (R_impl_comparer_decide d))] from ⟨⟨fn_impl_comparer_decide, (goodRR_impl_comparer_below_impl_comparer_decide d).2⟩, trivial⟩), (run_impl_comparer_below (R_impl_comparer_below d) (R_impl_comparer_decide d) big x).trans h⟩), (good_of_run Try.func50 (of_decide_eq_true (by kernel_rfl)) fun x r h => ⟨A_impl_comparer_decide (R_impl_comparer_below d) (R_impl_comparer_decide d), big, mkCfg_ok tabOk, mkCfg_sigs (show SigsOk Try.prog [(48, T_impl_comparer_below (R_impl_comparer_below d)), (40, S_impl_wordEnd)] from ⟨⟨fn_impl_comparer_below, (goodRR_impl_comparer_below_impl_comparer_decide d).1⟩, ⟨fn_impl_wordEnd, good_impl_wordEnd⟩, trivial⟩), (run_impl_comparer_decide (R_impl_comparer_below d) (R_impl_comparer_decide d) big x).trans h⟩)⟩
theorem good_impl_comparer_below : Gx.Good Try.prog 48 S_impl_comparer_below := (goodRR_impl_comparer_below_impl_comparer_decide big).1
theorem good_impl_comparer_decide : Gx.Good Try.prog 50 S_impl_comparer_decide := (goodRR_impl_comparer_below_impl_comparer_decide big).2

/-! impl_wordBelow -/
def impl_wordBelow_s (s_0 : (List Int)) (t_1 : (List Int)) : Option (Bool × Unit) :=
  (R_impl_comparer_below big ((s_0, (t_1, ([], ()))), (0 : Int), (0 : Int), ())).bind fun rq1 =>
  some (rq1.1, (()))
def impl_wordBelow (s_0 : (List Int)) (t_1 : (List Int)) : Option (Bool × Unit) := impl_wordBelow_s s_0 t_1
def S_impl_wordBelow : Sig := { a := (.pair (.sl I) (.pair (.sl I) .unit)), md := [0, 0], mf := [], m := .unit, r := .bool, rf := .i, f := fun x => impl_wordBelow x.1 x.2.1 }
def A_impl_wordBelow : Cfg := mkCfg tab [(48, S_impl_comparer_below)] []
theorem run_impl_wordBelow (N : Nat) (x : (S_impl_wordBelow).a.den) : runF (A_impl_wordBelow) N Try.f39 S_impl_wordBelow x = impl_wordBelow x.1 x.2.1 := by kernel_rfl
theorem fn_impl_wordBelow : FnOk Try.prog 39 := ⟨_, Try.func39, by kernel_rfl, by kernel_rfl⟩
theorem good_impl_wordBelow : Gx.Good Try.prog 39 S_impl_wordBelow := good_of_run Try.func39 (of_decide_eq_true (by kernel_rfl)) fun x r h => ⟨A_impl_wordBelow, big, mkCfg_ok tabOk, mkCfg_sigs (show SigsOk Try.prog [(48, S_impl_comparer_below)] from ⟨⟨fn_impl_comparer_below, good_impl_comparer_below⟩, trivial⟩), (run_impl_wordBelow big x).trans h⟩

/-! impl_WordBelow -/
def impl_WordBelow_s (s_0 : (List Int)) (t_1 : (List Int)) : Option ((Bool × (Bool × Unit)) × Unit) :=
  (impl_areWords s_0 t_1).bind fun rq1 =>
  cond (!rq1.1)
  (some ((false, false, ()), (())))
  ((impl_wordBelow s_0 t_1).bind fun rq2 =>
  some ((rq2.1, true, ()), (())))
def impl_WordBelow (s_0 : (List Int)) (t_1 : (List Int)) : Option ((Bool × (Bool × Unit)) × Unit) := impl_WordBelow_s s_0 t_1
def S_impl_WordBelow : Sig := { a := (.pair (.sl I) (.pair (.sl I) .unit)), md := [0, 0], mf := [], m := .unit, r := (.tup (.pair .bool (.pair .bool .unit))), rf := .i, f := fun x => impl_WordBelow x.1 x.2.1 }
def A_impl_WordBelow : Cfg := mkCfg tab [(28, S_impl_areWords), (39, S_impl_wordBelow)] []
theorem run_impl_WordBelow (N : Nat) (x : (S_impl_WordBelow).a.den) : runF (A_impl_WordBelow) N Try.f18 S_impl_WordBelow x = impl_WordBelow x.1 x.2.1 := by kernel_rfl
theorem fn_impl_WordBelow : FnOk Try.prog 18 := ⟨_, Try.func18, by kernel_rfl, by kernel_rfl⟩
theorem good_impl_WordBelow : Gx.Good Try.prog 18 S_impl_WordBelow := good_of_run Try.func18 (of_decide_eq_true (by kernel_rfl)) fun x r h => ⟨A_impl_WordBelow, big, mkCfg_ok tabOk, mkCfg_sigs (show SigsOk Try.prog [(28, S_impl_areWords), (39, S_impl_wordBelow)] from ⟨⟨fn_impl_areWords, good_impl_areWords⟩, ⟨fn_impl_wordBelow, good_impl_wordBelow⟩, trivial⟩), (run_impl_WordBelow big x).trans h⟩

/-! laws_FnWordTexts -/
def laws_FnWordTexts_b17 (rec : (List Int) → (List Int) → (List Int) → Int → Option (Bool × Unit)) (k : (List Int) → Option (Bool × Unit)) (code0 : (List Int)) (w3 : (List Int)) (letters10 : (List Int)) (i14 : Int) : Option (Bool × Unit) :=
  cond (decide (i14 < (letters10.length : Int)))
  ((atI letters10 i14).bind fun _ =>
  (letters10[i14.toNat]?).bind fun xq22 =>
  (atI letters10 i14).bind fun _ =>
  (letters10[i14.toNat]?).bind fun xq23 =>
  (impl_SubstituteWord big w3 xq22 [xq23]).bind fun rq24 =>
  cond (!rq24.1.2.1)
  (some (false, (())))
  ((laws_rInts big rq24.1.1 w3).bind fun rq25 =>
  cond (!rq25.1)
  (some (false, (())))
  (rec code0 w3 letters10 (IntKind.i64.wrap (i14 + (1 : Int))))))
  (k code0)
def laws_FnWordTexts_a17 (code0 : (List Int)) : Option (Bool × Unit) :=
  (spec_DrawParseWord code0).bind fun rq26 =>
  (impl_ParseWord rq26.1).bind fun rq27 =>
  (spec_ParseWord rq26.1).bind fun rq28 =>
  cond (((((), rq27.1.2).2).1) != ((((), rq28.1.2).2).1))
  (some (false, (())))
  ((laws_rInts big rq27.1.1 rq28.1.1).bind fun rq29 =>
  cond (!rq29.1)
  (some (false, (())))
  ((spec_DrawSubstituteWord code0).bind fun rq30 =>
  (impl_SubstituteWord big rq30.1.1 rq30.1.2.1 rq30.1.2.2.1).bind fun rq31 =>
  (spec_SubstituteWord big rq30.1.1 rq30.1.2.1 rq30.1.2.2.1).bind fun rq32 =>
  cond (((((), rq31.1.2).2).1) != rq32.1.2.1)
  (some (false, (())))
  ((laws_rInts big rq31.1.1 rq32.1.1).bind fun rq33 =>
  cond (!rq33.1)
  (some (false, (())))
  ((spec_DrawWordBelow code0).bind fun rq34 =>
  (impl_SubstituteWord big rq34.1.1 rq30.1.2.1 rq30.1.2.2.1).bind fun rq35 =>
  (impl_SubstituteWord big rq34.1.2.1 rq30.1.2.1 rq30.1.2.2.1).bind fun rq36 =>
  cond ((((), rq35.1.2).2).1)
  (cond ((((), rq36.1.2).2).1)
  ((impl_WordBelow rq34.1.1 rq34.1.2.1).bind fun rq37 =>
  (impl_WordBelow rq35.1.1 rq36.1.1).bind fun rq38 =>
  cond (!rq37.1.2.1)
  (some (false, (())))
  (cond (!rq38.1.2.1)
  (some (false, (())))
  (cond rq37.1.1
  (cond (!rq38.1.1)
  (some (false, (())))
  (some (true, (()))))
  (some (true, (()))))))
  (some (true, (()))))
  (some (true, (())))))))
def laws_FnWordTexts_s (L17 : (List Int) → (List Int) → (List Int) → Int → Option (Bool × Unit)) (code_0 : (List Int)) : Option (Bool × Unit) :=
  (laws_rBig code_0).bind fun rq1 =>
  cond rq1.1
  (some (true, (())))
  ((spec_DrawWordText code_0).bind fun rq2 =>
  (impl_WordText rq2.1).bind fun rq3 =>
  (spec_WordText rq2.1).bind fun rq4 =>
  cond (decide (rq3.1.1 ≠ rq4.1.1))
  (some (false, (())))
  (cond (rq3.1.2.1 != rq4.1.2.1)
  (some (false, (())))
  (cond rq3.1.2.1
  ((impl_ParseWord rq3.1.1).bind fun rq5 =>
  cond (!((((), rq5.1.2).2).1))
  (some (false, (())))
  ((laws_rInts big rq5.1.1 rq2.1).bind fun rq6 =>
  cond (!rq6.1)
  (some (false, (())))
  ((impl_LettersOf big rq2.1).bind fun rq7 =>
  (impl_MembersOf rq2.1).bind fun rq8 =>
  cond (!((((), rq7.1.2).2).1))
  (some (false, (())))
  (cond (!((((), rq8.1.2).2).1))
  (some (false, (())))
  (cond (decide ((rq8.1.1.length : Int) = (0 : Int)))
  (some (false, (())))
  (L17 code_0 rq2.1 rq7.1.1 (0 : Int)))))))
  ((spec_DrawParseWord code_0).bind fun rq9 =>
  (impl_ParseWord rq9.1).bind fun rq10 =>
  (spec_ParseWord rq9.1).bind fun rq11 =>
  cond (((((), rq10.1.2).2).1) != ((((), rq11.1.2).2).1))
  (some (false, (())))
  ((laws_rInts big rq10.1.1 rq11.1.1).bind fun rq12 =>
  cond (!rq12.1)
  (some (false, (())))
  ((spec_DrawSubstituteWord code_0).bind fun rq13 =>
  (impl_SubstituteWord big rq13.1.1 rq13.1.2.1 rq13.1.2.2.1).bind fun rq14 =>
  (spec_SubstituteWord big rq13.1.1 rq13.1.2.1 rq13.1.2.2.1).bind fun rq15 =>
  cond (((((), rq14.1.2).2).1) != rq15.1.2.1)
  (some (false, (())))
  ((laws_rInts big rq14.1.1 rq15.1.1).bind fun rq16 =>
  cond (!rq16.1)
  (some (false, (())))
  ((spec_DrawWordBelow code_0).bind fun rq17 =>
  (impl_SubstituteWord big rq17.1.1 rq13.1.2.1 rq13.1.2.2.1).bind fun rq18 =>
  (impl_SubstituteWord big rq17.1.2.1 rq13.1.2.1 rq13.1.2.2.1).bind fun rq19 =>
  cond ((((), rq18.1.2).2).1)
  (cond ((((), rq19.1.2).2).1)
  ((impl_WordBelow rq17.1.1 rq17.1.2.1).bind fun rq20 =>
  (impl_WordBelow rq18.1.1 rq19.1.1).bind fun rq21 =>
  cond (!rq20.1.2.1)
  (some (false, (())))
  (cond (!rq21.1.2.1)
  (some (false, (())))
  (cond rq20.1.1
  (cond (!rq21.1.1)
  (some (false, (())))
  (some (true, (()))))
  (some (true, (()))))))
  (some (true, (()))))
  (some (true, (())))))))))))
def laws_FnWordTexts_l17 (N : Nat) (k : (List Int) → Option (Bool × Unit)) : Nat → (List Int) → (List Int) → (List Int) → Int → Option (Bool × Unit)
  | 0, _, _, _, _ => none
  | m + 1, code0, w3, letters10, i14 => laws_FnWordTexts_b17 (laws_FnWordTexts_l17 N k m) k code0 w3 letters10 i14
def laws_FnWordTexts_F17 (N : Nat) (code0 : (List Int)) (w3 : (List Int)) (letters10 : (List Int)) (i14 : Int) : Option (Bool × Unit) := laws_FnWordTexts_l17 N (laws_FnWordTexts_a17) N code0 w3 letters10 i14
def laws_FnWordTexts (N : Nat) (code_0 : (List Int)) : Option (Bool × Unit) := laws_FnWordTexts_s (laws_FnWordTexts_F17 N) code_0
def S_laws_FnWordTexts : Sig := { a := (.pair (.sl (.int .u8)) .unit), md := [0], mf := [], m := .unit, r := .bool, rf := .i, f := fun x => laws_FnWordTexts big x.1 }
def A_laws_FnWordTexts : Cfg := mkCfg tab [(4, S_laws_rBig), (5, S_spec_DrawWordText), (6, S_impl_WordText), (7, S_spec_WordText), (8, S_impl_ParseWord), (9, S_laws_rInts), (10, S_impl_LettersOf), (11, S_impl_MembersOf), (13, S_spec_DrawParseWord), (14, S_spec_ParseWord), (15, S_spec_DrawSubstituteWord), (12, S_impl_SubstituteWord), (16, S_spec_SubstituteWord), (17, S_spec_DrawWordBelow), (18, S_impl_WordBelow)] [(34, [.as (.sl (.int .u8)) .i, .drop, .drop, .as (.sl I) .i, .drop, .drop, .drop, .drop, .drop, .drop, .as (.sl I) (.o .i), .drop, .drop, .drop, .as I .i]), (45, [.as (.sl (.int .u8)) .i])]
noncomputable def laws_FnWordTexts_R17 (N n : Nat) (K : Ex → St → Option (Bool × Unit)) (code0 : (List Int)) (w3 : (List Int)) (letters10 : (List Int)) (i14 : Int) : Option (Bool × Unit) := iter ((A_laws_FnWordTexts).shape 34) (run (A_laws_FnWordTexts) N (codeAt Try.f3 [1, 1, 1, 1, 1, 0, 1, 0, 1, 1, 1, 1, 1, 0, 0])) n ([.val (.sl (.int .u8)) .i code0, .u, .u, .val (.sl I) .i w3, .u, .u, .u, .u, .u, .u, .val (.sl I) (.o .i) letters10, .u, .u, .u, .val I .i i14] ++ List.replicate 207 .u) K
noncomputable abbrev laws_FnWordTexts_z : Ex → St → Option (Bool × Unit) := finish (A_laws_FnWordTexts) S_laws_FnWordTexts Try.f3.results.toList
noncomputable abbrev laws_FnWordTexts_X17 (kX : St → Option (Bool × Unit)) : (List Int) → Option (Bool × Unit) := fun (code0 : (List Int)) => kX ([.val (.sl (.int .u8)) .i code0] ++ List.replicate 221 .u)
noncomputable abbrev laws_FnWordTexts_E17 (kX : St → Option (Bool × Unit)) (kO : Nat → St → Option (Bool × Unit)) : Ex → St → Option (Bool × Unit) := exK laws_FnWordTexts_z 0 ((A_laws_FnWordTexts).shape 45) kX kO
theorem laws_FnWordTexts_step17 (N : Nat) (m : Nat) (kX : St → Option (Bool × Unit)) (kO : Nat → St → Option (Bool × Unit)) (code0 : (List Int)) (w3 : (List Int)) (letters10 : (List Int)) (i14 : Int) : laws_FnWordTexts_R17 N (m + 1) (laws_FnWordTexts_E17 kX kO) code0 w3 letters10 i14 = laws_FnWordTexts_b17 (laws_FnWordTexts_R17 N m (laws_FnWordTexts_E17 kX kO)) (laws_FnWordTexts_X17 kX) code0 w3 letters10 i14 := by kernel_rfl
theorem laws_FnWordTexts_iter17 (N : Nat) (kX : St → Option (Bool × Unit)) (kO : Nat → St → Option (Bool × Unit)) : ∀ (n : Nat) (code0 : (List Int)) (w3 : (List Int)) (letters10 : (List Int)) (i14 : Int), laws_FnWordTexts_R17 N n (laws_FnWordTexts_E17 kX kO) code0 w3 letters10 i14 = laws_FnWordTexts_l17 N (laws_FnWordTexts_X17 kX) n code0 w3 letters10 i14
  | 0, _, _, _, _ => rfl
  | m + 1, code0, w3, letters10, i14 => by
    have hrec : laws_FnWordTexts_R17 N m (laws_FnWordTexts_E17 kX kO) = (laws_FnWordTexts_l17 N (laws_FnWordTexts_X17 kX) m) := (funext fun code0 => (funext fun w3 => (funext fun letters10 => (funext fun i14 => laws_FnWordTexts_iter17 N kX kO m code0 w3 letters10 i14))))
    refine (laws_FnWordTexts_step17 N m kX kO code0 w3 letters10 i14).trans ?_
    rw [hrec]
    rfl
noncomputable abbrev laws_FnWordTexts_K17 (N : Nat) : Ex → St → Option (Bool × Unit) := (blockK 0 (seqK ((A_laws_FnWordTexts).shape 45) (run (A_laws_FnWordTexts) N (codeAt Try.f3 [1, 1, 1, 1, 1, 1])) laws_FnWordTexts_z))
noncomputable abbrev laws_FnWordTexts_k17 (N : Nat) : St → Option (Bool × Unit) := fun st' => run (A_laws_FnWordTexts) N (codeAt Try.f3 [1, 1, 1, 1, 1, 1]) st' laws_FnWordTexts_z
theorem laws_FnWordTexts_after17 (N : Nat) (code0 : (List Int)) : laws_FnWordTexts_X17 (laws_FnWordTexts_k17 N) code0 = laws_FnWordTexts_a17 code0 := by kernel_rfl
theorem laws_FnWordTexts_in17 (N : Nat) (code0 : (List Int)) (w3 : (List Int)) (letters10 : (List Int)) (i14 : Int) : laws_FnWordTexts_R17 N N (laws_FnWordTexts_K17 N) code0 w3 letters10 i14 = laws_FnWordTexts_F17 N code0 w3 letters10 i14 :=
  have h : laws_FnWordTexts_X17 (laws_FnWordTexts_k17 N) = (laws_FnWordTexts_a17) := (funext fun code0 => laws_FnWordTexts_after17 N code0)
  ((iter_ex (fun st => by kernel_rfl) (fun st => by kernel_rfl)).trans (laws_FnWordTexts_iter17 N (laws_FnWordTexts_k17 N) (fun j st => (laws_FnWordTexts_K17 N) (.exit j) st) N code0 w3 letters10 i14)).trans (congrArg (fun k => laws_FnWordTexts_l17 N k N code0 w3 letters10 i14) h)
theorem run0_laws_FnWordTexts (N : Nat) (x : (S_laws_FnWordTexts).a.den) : runF (A_laws_FnWordTexts) N Try.f3 S_laws_FnWordTexts x = (laws_FnWordTexts_s (laws_FnWordTexts_R17 N N (laws_FnWordTexts_K17 N)) x.1) := by kernel_rfl
theorem run_laws_FnWordTexts (N : Nat) (x : (S_laws_FnWordTexts).a.den) : runF (A_laws_FnWordTexts) N Try.f3 S_laws_FnWordTexts x = laws_FnWordTexts N x.1 := by
  refine (run0_laws_FnWordTexts N x).trans ?_
  rw [(funext fun code0 => (funext fun w3 => (funext fun letters10 => (funext fun i14 => laws_FnWordTexts_in17 N code0 w3 letters10 i14))))]
  rfl
theorem fn_laws_FnWordTexts : FnOk Try.prog 3 := ⟨_, Try.func3, by kernel_rfl, by kernel_rfl⟩
theorem good_laws_FnWordTexts : Gx.Good Try.prog 3 S_laws_FnWordTexts := good_of_run Try.func3 (of_decide_eq_true (by kernel_rfl)) fun x r h => ⟨A_laws_FnWordTexts, big, mkCfg_ok tabOk, mkCfg_sigs (show SigsOk Try.prog [(4, S_laws_rBig), (5, S_spec_DrawWordText), (6, S_impl_WordText), (7, S_spec_WordText), (8, S_impl_ParseWord), (9, S_laws_rInts), (10, S_impl_LettersOf), (11, S_impl_MembersOf), (13, S_spec_DrawParseWord), (14, S_spec_ParseWord), (15, S_spec_DrawSubstituteWord), (12, S_impl_SubstituteWord), (16, S_spec_SubstituteWord), (17, S_spec_DrawWordBelow), (18, S_impl_WordBelow)] from ⟨⟨fn_laws_rBig, good_laws_rBig⟩, ⟨fn_spec_DrawWordText, good_spec_DrawWordText⟩, ⟨fn_impl_WordText, good_impl_WordText⟩, ⟨fn_spec_WordText, good_spec_WordText⟩, ⟨fn_impl_ParseWord, good_impl_ParseWord⟩, ⟨fn_laws_rInts, good_laws_rInts⟩, ⟨fn_impl_LettersOf, good_impl_LettersOf⟩, ⟨fn_impl_MembersOf, good_impl_MembersOf⟩, ⟨fn_spec_DrawParseWord, good_spec_DrawParseWord⟩, ⟨fn_spec_ParseWord, good_spec_ParseWord⟩, ⟨fn_spec_DrawSubstituteWord, good_spec_DrawSubstituteWord⟩, ⟨fn_impl_SubstituteWord, good_impl_SubstituteWord⟩, ⟨fn_spec_SubstituteWord, good_spec_SubstituteWord⟩, ⟨fn_spec_DrawWordBelow, good_spec_DrawWordBelow⟩, ⟨fn_impl_WordBelow, good_impl_WordBelow⟩, trivial⟩), (run_laws_FnWordTexts big x).trans h⟩
end
end Go.Proofs.Ytcfhllnenhfigaa
