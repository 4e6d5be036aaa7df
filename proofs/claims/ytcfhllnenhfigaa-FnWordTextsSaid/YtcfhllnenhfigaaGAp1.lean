import Derived.Test.YtcfhllnenhfigaaGxBox
import Derived.Test.YtcfhllnenhfigaaRows
import Derived.Test.YtcfhllnenhfigaaChecked
import Derived.KernelRfl
set_option maxRecDepth 100000
set_option linter.unusedVariables false
namespace Go.Proofs.Ytcfhllnenhfigaa
open Go Go.Gx Go.Proofs

abbrev I := Ty.int .i64
def tab : Tab := { es := [(22, (.int .u8), .i), (24, I, .i), (32, (.sl I), (.o .i)), (47, .bool, .i)], ts := [(3, I, .i), (4, .bool, .i), (5, (.int .u8), .i), (9, .str, .i), (22, (.sl (.int .u8)), (.o .i)), (24, (.sl I), (.o .i)), (32, (.sl (.sl I)), (.o (.o .i))), (47, (.sl .bool), (.o .i)), (51, (.ptr (.pair (.sl (.int .u8)) (.pair I (.pair (.int .u64) .unit)))), (.o (.p (.o .i) .i))), (52, (.int .u64), .i), (54, (.pair (.sl (.int .u8)) (.pair I (.pair (.int .u64) .unit))), (.p (.o .i) .i)), (74, (.ptr (.pair (.sl I) (.pair (.sl I) (.pair (.map (.pair I (.pair I .unit)) .bool) .unit)))), (.o (.p (.o .i) (.p (.o .i) (.p (.o .i) .i))))), (75, (.map (.pair I (.pair I .unit)) .bool), (.o .i)), (77, (.pair (.sl I) (.pair (.sl I) (.pair (.map (.pair I (.pair I .unit)) .bool) .unit))), (.p (.o .i) (.p (.o .i) (.p (.o .i) .i)))), (84, (.pair I (.pair I .unit)), .i)], fs := [(54, [((.sl (.int .u8)), (.o .i)), (I, .i), ((.int .u64), .i)]), (77, [((.sl I), (.o .i)), ((.sl I), (.o .i)), ((.map (.pair I (.pair I .unit)) .bool), (.o .i))])], ars := [(84, I, .i, 2)], ms := [(71, (.int .u8), I), (75, (.pair I (.pair I .unit)), .bool)] }
theorem tabOk : tab.chk Try.prog = true := by kernel_rfl

/-! laws_rBig -/
def laws_rBig_s (code_0 : (List Int)) : Option (Bool × Unit) :=
  some (decide ((65536 : Int) < (code_0.length : Int)), (()))
def laws_rBig (code_0 : (List Int)) : Option (Bool × Unit) := laws_rBig_s code_0
def S_laws_rBig : Sig := { a := (.pair (.sl (.int .u8)) .unit), md := [0], mf := [], m := .unit, r := .bool, rf := .i, f := fun x => laws_rBig x.1 }
def A_laws_rBig : Cfg := mkCfg tab [] []
theorem run_laws_rBig (N : Nat) (x : (S_laws_rBig).a.den) : runF (A_laws_rBig) N Try.f4 S_laws_rBig x = laws_rBig x.1 := by kernel_rfl
theorem fn_laws_rBig : FnOk Try.prog 4 := ⟨_, Try.func4, by kernel_rfl, by kernel_rfl⟩
theorem good_laws_rBig : Gx.Good Try.prog 4 S_laws_rBig := good_of_run Try.func4 (of_decide_eq_true (by kernel_rfl)) fun x r h => ⟨A_laws_rBig, big, mkCfg_ok tabOk, mkCfg_sigs (show SigsOk Try.prog [] from trivial), (run_laws_rBig big x).trans h⟩

/-! spec_l1Cur_next -/
def spec_l1Cur_next_s (c_0 : ((List Int) × (Int × (Int × Unit)))) : Option (Int × (((List Int) × (Int × (Int × Unit))) × Unit)) :=
  cond (decide (c_0.2.1 < (c_0.1.length : Int)))
  ((atI c_0.1 c_0.2.1).bind fun xq1 =>
  cond (decide (((((c_0.1, (IntKind.i64.wrap (c_0.2.1 + (1 : Int)), c_0.2.2)).1, (((c_0.1, (IntKind.i64.wrap (c_0.2.1 + (1 : Int)), c_0.2.2)).2).1, (IntKind.u64.wrap ((IntKind.u64.wrap ((IntKind.u64.wrap (((((c_0.1, (IntKind.i64.wrap (c_0.2.1 + (1 : Int)), c_0.2.2)).2).2).1) * (6364136223846793005 : Int))) + (IntKind.u64.wrap (IntKind.i64.wrap xq1)))) + (550289 : Int)), (((c_0.1, (IntKind.i64.wrap (c_0.2.1 + (1 : Int)), c_0.2.2)).2).2).2))).2).1) ≤ ((((c_0.1, (IntKind.i64.wrap (c_0.2.1 + (1 : Int)), c_0.2.2)).1, (((c_0.1, (IntKind.i64.wrap (c_0.2.1 + (1 : Int)), c_0.2.2)).2).1, (IntKind.u64.wrap ((IntKind.u64.wrap ((IntKind.u64.wrap (((((c_0.1, (IntKind.i64.wrap (c_0.2.1 + (1 : Int)), c_0.2.2)).2).2).1) * (6364136223846793005 : Int))) + (IntKind.u64.wrap (IntKind.i64.wrap xq1)))) + (550289 : Int)), (((c_0.1, (IntKind.i64.wrap (c_0.2.1 + (1 : Int)), c_0.2.2)).2).2).2))).1).length : Int)))
  (some (IntKind.i64.wrap xq1, (((c_0.1, (IntKind.i64.wrap (c_0.2.1 + (1 : Int)), c_0.2.2)).1, (((c_0.1, (IntKind.i64.wrap (c_0.2.1 + (1 : Int)), c_0.2.2)).2).1, (IntKind.u64.wrap ((IntKind.u64.wrap ((IntKind.u64.wrap (((((c_0.1, (IntKind.i64.wrap (c_0.2.1 + (1 : Int)), c_0.2.2)).2).2).1) * (6364136223846793005 : Int))) + (IntKind.u64.wrap (IntKind.i64.wrap xq1)))) + (550289 : Int)), (((c_0.1, (IntKind.i64.wrap (c_0.2.1 + (1 : Int)), c_0.2.2)).2).2).2))), ())))
  ((shrI IntKind.u64 (((((c_0.1, (IntKind.i64.wrap (c_0.2.1 + (1 : Int)), c_0.2.2)).1, (((c_0.1, (IntKind.i64.wrap (c_0.2.1 + (1 : Int)), c_0.2.2)).2).1, (IntKind.u64.wrap ((IntKind.u64.wrap ((IntKind.u64.wrap (((((c_0.1, (IntKind.i64.wrap (c_0.2.1 + (1 : Int)), c_0.2.2)).2).2).1) * (6364136223846793005 : Int))) + (IntKind.u64.wrap (IntKind.i64.wrap xq1)))) + (550289 : Int)), (((c_0.1, (IntKind.i64.wrap (c_0.2.1 + (1 : Int)), c_0.2.2)).2).2).2))).2).2).1) (40 : Int)).bind fun xq2 =>
  some (IntKind.i64.wrap (bitI .and IntKind.u64 xq2 (255 : Int)), (((c_0.1, (IntKind.i64.wrap (c_0.2.1 + (1 : Int)), c_0.2.2)).1, (((c_0.1, (IntKind.i64.wrap (c_0.2.1 + (1 : Int)), c_0.2.2)).2).1, (IntKind.u64.wrap ((IntKind.u64.wrap ((IntKind.u64.wrap (((((c_0.1, (IntKind.i64.wrap (c_0.2.1 + (1 : Int)), c_0.2.2)).2).2).1) * (6364136223846793005 : Int))) + (IntKind.u64.wrap (IntKind.i64.wrap xq1)))) + (550289 : Int)), (((c_0.1, (IntKind.i64.wrap (c_0.2.1 + (1 : Int)), c_0.2.2)).2).2).2))), ()))))
  (cond (decide (((((c_0.1, (IntKind.i64.wrap (c_0.2.1 + (1 : Int)), c_0.2.2)).1, (((c_0.1, (IntKind.i64.wrap (c_0.2.1 + (1 : Int)), c_0.2.2)).2).1, (IntKind.u64.wrap ((IntKind.u64.wrap ((IntKind.u64.wrap (((((c_0.1, (IntKind.i64.wrap (c_0.2.1 + (1 : Int)), c_0.2.2)).2).2).1) * (6364136223846793005 : Int))) + (IntKind.u64.wrap (0 : Int)))) + (550289 : Int)), (((c_0.1, (IntKind.i64.wrap (c_0.2.1 + (1 : Int)), c_0.2.2)).2).2).2))).2).1) ≤ ((((c_0.1, (IntKind.i64.wrap (c_0.2.1 + (1 : Int)), c_0.2.2)).1, (((c_0.1, (IntKind.i64.wrap (c_0.2.1 + (1 : Int)), c_0.2.2)).2).1, (IntKind.u64.wrap ((IntKind.u64.wrap ((IntKind.u64.wrap (((((c_0.1, (IntKind.i64.wrap (c_0.2.1 + (1 : Int)), c_0.2.2)).2).2).1) * (6364136223846793005 : Int))) + (IntKind.u64.wrap (0 : Int)))) + (550289 : Int)), (((c_0.1, (IntKind.i64.wrap (c_0.2.1 + (1 : Int)), c_0.2.2)).2).2).2))).1).length : Int)))
  (some ((0 : Int), (((c_0.1, (IntKind.i64.wrap (c_0.2.1 + (1 : Int)), c_0.2.2)).1, (((c_0.1, (IntKind.i64.wrap (c_0.2.1 + (1 : Int)), c_0.2.2)).2).1, (IntKind.u64.wrap ((IntKind.u64.wrap ((IntKind.u64.wrap (((((c_0.1, (IntKind.i64.wrap (c_0.2.1 + (1 : Int)), c_0.2.2)).2).2).1) * (6364136223846793005 : Int))) + (IntKind.u64.wrap (0 : Int)))) + (550289 : Int)), (((c_0.1, (IntKind.i64.wrap (c_0.2.1 + (1 : Int)), c_0.2.2)).2).2).2))), ())))
  ((shrI IntKind.u64 (((((c_0.1, (IntKind.i64.wrap (c_0.2.1 + (1 : Int)), c_0.2.2)).1, (((c_0.1, (IntKind.i64.wrap (c_0.2.1 + (1 : Int)), c_0.2.2)).2).1, (IntKind.u64.wrap ((IntKind.u64.wrap ((IntKind.u64.wrap (((((c_0.1, (IntKind.i64.wrap (c_0.2.1 + (1 : Int)), c_0.2.2)).2).2).1) * (6364136223846793005 : Int))) + (IntKind.u64.wrap (0 : Int)))) + (550289 : Int)), (((c_0.1, (IntKind.i64.wrap (c_0.2.1 + (1 : Int)), c_0.2.2)).2).2).2))).2).2).1) (40 : Int)).bind fun xq3 =>
  some (IntKind.i64.wrap (bitI .and IntKind.u64 xq3 (255 : Int)), (((c_0.1, (IntKind.i64.wrap (c_0.2.1 + (1 : Int)), c_0.2.2)).1, (((c_0.1, (IntKind.i64.wrap (c_0.2.1 + (1 : Int)), c_0.2.2)).2).1, (IntKind.u64.wrap ((IntKind.u64.wrap ((IntKind.u64.wrap (((((c_0.1, (IntKind.i64.wrap (c_0.2.1 + (1 : Int)), c_0.2.2)).2).2).1) * (6364136223846793005 : Int))) + (IntKind.u64.wrap (0 : Int)))) + (550289 : Int)), (((c_0.1, (IntKind.i64.wrap (c_0.2.1 + (1 : Int)), c_0.2.2)).2).2).2))), ()))))
def spec_l1Cur_next (c_0 : ((List Int) × (Int × (Int × Unit)))) : Option (Int × (((List Int) × (Int × (Int × Unit))) × Unit)) := spec_l1Cur_next_s c_0
def S_spec_l1Cur_next : Sig := { a := (.pair (.ptr (.pair (.sl (.int .u8)) (.pair I (.pair (.int .u64) .unit)))) .unit), md := [1], mf := [(.o .i)], m := (.pair (.ptr (.pair (.sl (.int .u8)) (.pair I (.pair (.int .u64) .unit)))) .unit), r := I, rf := .i, f := fun x => spec_l1Cur_next x.1 }
def A_spec_l1Cur_next : Cfg := mkCfg tab [] []
theorem run_spec_l1Cur_next (N : Nat) (x : (S_spec_l1Cur_next).a.den) : runF (A_spec_l1Cur_next) N Try.f47 S_spec_l1Cur_next x = spec_l1Cur_next x.1 := by kernel_rfl
theorem fn_spec_l1Cur_next : FnOk Try.prog 47 := ⟨_, Try.func47, by kernel_rfl, by kernel_rfl⟩
theorem good_spec_l1Cur_next : Gx.Good Try.prog 47 S_spec_l1Cur_next := good_of_run Try.func47 (of_decide_eq_true (by kernel_rfl)) fun x r h => ⟨A_spec_l1Cur_next, big, mkCfg_ok tabOk, mkCfg_sigs (show SigsOk Try.prog [] from trivial), (run_spec_l1Cur_next big x).trans h⟩

/-! spec_l1Cur_pick -/
def spec_l1Cur_pick_s (c_0 : ((List Int) × (Int × (Int × Unit)))) (n_1 : Int) : Option (Int × (((List Int) × (Int × (Int × Unit))) × Unit)) :=
  cond (decide (n_1 ≤ (1 : Int)))
  (some ((0 : Int), (c_0, ())))
  ((spec_l1Cur_next c_0).bind fun rq1 =>
  cond (decide ((200 : Int) < n_1))
  ((spec_l1Cur_next rq1.2.1).bind fun rq2 =>
  (remI (IntKind.i64.wrap ((IntKind.i64.wrap (rq1.1 * (256 : Int))) + rq2.1)) n_1).bind fun xq3 =>
  some (xq3, (rq2.2.1, ())))
  ((remI rq1.1 n_1).bind fun xq4 =>
  some (xq4, (rq1.2.1, ()))))
def spec_l1Cur_pick (c_0 : ((List Int) × (Int × (Int × Unit)))) (n_1 : Int) : Option (Int × (((List Int) × (Int × (Int × Unit))) × Unit)) := spec_l1Cur_pick_s c_0 n_1
def S_spec_l1Cur_pick : Sig := { a := (.pair (.ptr (.pair (.sl (.int .u8)) (.pair I (.pair (.int .u64) .unit)))) (.pair I .unit)), md := [1, 0], mf := [(.o .i)], m := (.pair (.ptr (.pair (.sl (.int .u8)) (.pair I (.pair (.int .u64) .unit)))) .unit), r := I, rf := .i, f := fun x => spec_l1Cur_pick x.1 x.2.1 }
def A_spec_l1Cur_pick : Cfg := mkCfg tab [(47, S_spec_l1Cur_next)] []
theorem run_spec_l1Cur_pick (N : Nat) (x : (S_spec_l1Cur_pick).a.den) : runF (A_spec_l1Cur_pick) N Try.f34 S_spec_l1Cur_pick x = spec_l1Cur_pick x.1 x.2.1 := by kernel_rfl
theorem fn_spec_l1Cur_pick : FnOk Try.prog 34 := ⟨_, Try.func34, by kernel_rfl, by kernel_rfl⟩
theorem good_spec_l1Cur_pick : Gx.Good Try.prog 34 S_spec_l1Cur_pick := good_of_run Try.func34 (of_decide_eq_true (by kernel_rfl)) fun x r h => ⟨A_spec_l1Cur_pick, big, mkCfg_ok tabOk, mkCfg_sigs (show SigsOk Try.prog [(47, S_spec_l1Cur_next)] from ⟨⟨fn_spec_l1Cur_next, good_spec_l1Cur_next⟩, trivial⟩), (run_spec_l1Cur_pick big x).trans h⟩

/-! spec_l1Cur_among -/
def spec_l1Cur_among_s (c_0 : ((List Int) × (Int × (Int × Unit)))) (list_1 : (List Int)) : Option (Int × (((List Int) × (Int × (Int × Unit))) × Unit)) :=
  (spec_l1Cur_pick c_0 (list_1.length : Int)).bind fun rq1 =>
  (atI list_1 rq1.1).bind fun xq2 =>
  some (xq2, (rq1.2.1, ()))
def spec_l1Cur_among (c_0 : ((List Int) × (Int × (Int × Unit)))) (list_1 : (List Int)) : Option (Int × (((List Int) × (Int × (Int × Unit))) × Unit)) := spec_l1Cur_among_s c_0 list_1
def S_spec_l1Cur_among : Sig := { a := (.pair (.ptr (.pair (.sl (.int .u8)) (.pair I (.pair (.int .u64) .unit)))) (.pair (.sl I) .unit)), md := [1, 0], mf := [(.o .i)], m := (.pair (.ptr (.pair (.sl (.int .u8)) (.pair I (.pair (.int .u64) .unit)))) .unit), r := I, rf := .i, f := fun x => spec_l1Cur_among x.1 x.2.1 }
def A_spec_l1Cur_among : Cfg := mkCfg tab [(34, S_spec_l1Cur_pick)] []
theorem run_spec_l1Cur_among (N : Nat) (x : (S_spec_l1Cur_among).a.den) : runF (A_spec_l1Cur_among) N Try.f33 S_spec_l1Cur_among x = spec_l1Cur_among x.1 x.2.1 := by kernel_rfl
theorem fn_spec_l1Cur_among : FnOk Try.prog 33 := ⟨_, Try.func33, by kernel_rfl, by kernel_rfl⟩
theorem good_spec_l1Cur_among : Gx.Good Try.prog 33 S_spec_l1Cur_among := good_of_run Try.func33 (of_decide_eq_true (by kernel_rfl)) fun x r h => ⟨A_spec_l1Cur_among, big, mkCfg_ok tabOk, mkCfg_sigs (show SigsOk Try.prog [(34, S_spec_l1Cur_pick)] from ⟨⟨fn_spec_l1Cur_pick, good_spec_l1Cur_pick⟩, trivial⟩), (run_spec_l1Cur_among big x).trans h⟩

/-! spec_l1Cur_one -/
def spec_l1Cur_one_s (c_0 : ((List Int) × (Int × (Int × Unit)))) (n_1 : Int) : Option (Bool × (((List Int) × (Int × (Int × Unit))) × Unit)) :=
  (spec_l1Cur_pick c_0 n_1).bind fun rq1 =>
  some (decide (rq1.1 = (0 : Int)), (rq1.2.1, ()))
def spec_l1Cur_one (c_0 : ((List Int) × (Int × (Int × Unit)))) (n_1 : Int) : Option (Bool × (((List Int) × (Int × (Int × Unit))) × Unit)) := spec_l1Cur_one_s c_0 n_1
def S_spec_l1Cur_one : Sig := { a := (.pair (.ptr (.pair (.sl (.int .u8)) (.pair I (.pair (.int .u64) .unit)))) (.pair I .unit)), md := [1, 0], mf := [(.o .i)], m := (.pair (.ptr (.pair (.sl (.int .u8)) (.pair I (.pair (.int .u64) .unit)))) .unit), r := .bool, rf := .i, f := fun x => spec_l1Cur_one x.1 x.2.1 }
def A_spec_l1Cur_one : Cfg := mkCfg tab [(34, S_spec_l1Cur_pick)] []
theorem run_spec_l1Cur_one (N : Nat) (x : (S_spec_l1Cur_one).a.den) : runF (A_spec_l1Cur_one) N Try.f30 S_spec_l1Cur_one x = spec_l1Cur_one x.1 x.2.1 := by kernel_rfl
theorem fn_spec_l1Cur_one : FnOk Try.prog 30 := ⟨_, Try.func30, by kernel_rfl, by kernel_rfl⟩
theorem good_spec_l1Cur_one : Gx.Good Try.prog 30 S_spec_l1Cur_one := good_of_run Try.func30 (of_decide_eq_true (by kernel_rfl)) fun x r h => ⟨A_spec_l1Cur_one, big, mkCfg_ok tabOk, mkCfg_sigs (show SigsOk Try.prog [(34, S_spec_l1Cur_pick)] from ⟨⟨fn_spec_l1Cur_pick, good_spec_l1Cur_pick⟩, trivial⟩), (run_spec_l1Cur_one big x).trans h⟩

/-! spec_l28Put -/
def spec_l28Put_s (sign_0 : Int) (s_1 : (List Int)) (t_2 : (List Int)) : Option ((List Int) × Unit) :=
  (appI [sign_0] s_1).bind fun xq1 =>
  (appI xq1 t_2).bind fun xq2 =>
  some (xq2, (()))
def spec_l28Put (sign_0 : Int) (s_1 : (List Int)) (t_2 : (List Int)) : Option ((List Int) × Unit) := spec_l28Put_s sign_0 s_1 t_2
def S_spec_l28Put : Sig := { a := (.pair I (.pair (.sl I) (.pair (.sl I) .unit))), md := [0, 0, 0], mf := [], m := .unit, r := (.sl I), rf := (.o .i), f := fun x => spec_l28Put x.1 x.2.1 x.2.2.1 }
def A_spec_l28Put : Cfg := mkCfg tab [] []
theorem run_spec_l28Put (N : Nat) (x : (S_spec_l28Put).a.den) : runF (A_spec_l28Put) N Try.f38 S_spec_l28Put x = spec_l28Put x.1 x.2.1 x.2.2.1 := by kernel_rfl
theorem fn_spec_l28Put : FnOk Try.prog 38 := ⟨_, Try.func38, by kernel_rfl, by kernel_rfl⟩
theorem good_spec_l28Put : Gx.Good Try.prog 38 S_spec_l28Put := good_of_run Try.func38 (of_decide_eq_true (by kernel_rfl)) fun x r h => ⟨A_spec_l28Put, big, mkCfg_ok tabOk, mkCfg_sigs (show SigsOk Try.prog [] from trivial), (run_spec_l28Put big x).trans h⟩

/-! types of spec_l1Cur_word28 -/
def T_spec_l1Cur_word28 (self : (((List Int) × (Int × (Int × Unit))) × (Int × Unit)) → Option ((List Int) × (((List Int) × (Int × (Int × Unit))) × Unit))) : Sig := { a := (.pair (.ptr (.pair (.sl (.int .u8)) (.pair I (.pair (.int .u64) .unit)))) (.pair I .unit)), md := [1, 0], mf := [(.o .i)], m := (.pair (.ptr (.pair (.sl (.int .u8)) (.pair I (.pair (.int .u64) .unit)))) .unit), r := (.sl I), rf := (.o .i), f := self }

/-! spec_l1Cur_word28 -/
def spec_l1Cur_word28_s (self_spec_l1Cur_word28 : (((List Int) × (Int × (Int × Unit))) × (Int × Unit)) → Option ((List Int) × (((List Int) × (Int × (Int × Unit))) × Unit))) (c_0 : ((List Int) × (Int × (Int × Unit)))) (size_1 : Int) : Option ((List Int) × (((List Int) × (Int × (Int × Unit))) × Unit)) :=
  cond (decide (size_1 ≤ (1 : Int)))
  ((spec_l1Cur_pick c_0 (4 : Int)).bind fun rq1 =>
  some ([rq1.1], (rq1.2.1, ())))
  ((spec_l1Cur_one c_0 (4 : Int)).bind fun rq2 =>
  cond rq2.1
  ((spec_l1Cur_pick rq2.2.1 (4 : Int)).bind fun rq3 =>
  some ([rq3.1], (rq3.2.1, ())))
  ((spec_l1Cur_pick rq2.2.1 (IntKind.i64.wrap (size_1 - (1 : Int)))).bind fun rq4 =>
  (spec_l1Cur_pick rq4.2.1 (2 : Int)).bind fun rq5 =>
  (self_spec_l1Cur_word28 (rq5.2.1, IntKind.i64.wrap ((1 : Int) + rq4.1), ())).bind fun rq6 =>
  (self_spec_l1Cur_word28 (rq6.2.1, IntKind.i64.wrap (size_1 - (IntKind.i64.wrap ((1 : Int) + rq4.1))), ())).bind fun rq7 =>
  (spec_l28Put (IntKind.i64.wrap ((-1 : Int) - rq5.1)) rq6.1 rq7.1).bind fun rq8 =>
  some (rq8.1, (rq7.2.1, ()))))
def spec_l1Cur_word28 (self_spec_l1Cur_word28 : (((List Int) × (Int × (Int × Unit))) × (Int × Unit)) → Option ((List Int) × (((List Int) × (Int × (Int × Unit))) × Unit))) (c_0 : ((List Int) × (Int × (Int × Unit)))) (size_1 : Int) : Option ((List Int) × (((List Int) × (Int × (Int × Unit))) × Unit)) := spec_l1Cur_word28_s self_spec_l1Cur_word28 c_0 size_1
def A_spec_l1Cur_word28 (self_spec_l1Cur_word28 : (((List Int) × (Int × (Int × Unit))) × (Int × Unit)) → Option ((List Int) × (((List Int) × (Int × (Int × Unit))) × Unit))) : Cfg := mkCfg tab [(34, S_spec_l1Cur_pick), (30, S_spec_l1Cur_one), (46, T_spec_l1Cur_word28 self_spec_l1Cur_word28), (38, S_spec_l28Put)] []
theorem run_spec_l1Cur_word28 (self_spec_l1Cur_word28 : (((List Int) × (Int × (Int × Unit))) × (Int × Unit)) → Option ((List Int) × (((List Int) × (Int × (Int × Unit))) × Unit))) (N : Nat) (x : ((T_spec_l1Cur_word28 self_spec_l1Cur_word28)).a.den) : runF (A_spec_l1Cur_word28 self_spec_l1Cur_word28) N Try.f46 (T_spec_l1Cur_word28 self_spec_l1Cur_word28) x = spec_l1Cur_word28 self_spec_l1Cur_word28 x.1 x.2.1 := by kernel_rfl
theorem fn_spec_l1Cur_word28 : FnOk Try.prog 46 := ⟨_, Try.func46, by kernel_rfl, by kernel_rfl⟩

/-! recursion -/
def R_spec_l1Cur_word28 : Nat → (((List Int) × (Int × (Int × Unit))) × (Int × Unit)) → Option ((List Int) × (((List Int) × (Int × (Int × Unit))) × Unit))
  | 0, _ => none
  | d + 1, x => spec_l1Cur_word28 (R_spec_l1Cur_word28 d) x.1 x.2.1
def S_spec_l1Cur_word28 : Sig := T_spec_l1Cur_word28 (R_spec_l1Cur_word28 big)
theorem goodR_spec_l1Cur_word28 : ∀ d, Gx.Good Try.prog 46 (T_spec_l1Cur_word28 (R_spec_l1Cur_word28 d))
  | 0 => fun x r h => by cases h
  | d + 1 => good_of_run Try.func46 (of_decide_eq_true (by kernel_rfl)) fun x r h => ⟨A_spec_l1Cur_word28 (R_spec_l1Cur_word28 d), big, mkCfg_ok tabOk, mkCfg_sigs (show SigsOk Try.prog [(34, S_spec_l1Cur_pick), (30, S_spec_l1Cur_one), (46, T_spec_l1Cur_word28 (R_spec_l1Cur_word28 d)), (38, S_spec_l28Put)] from ⟨⟨fn_spec_l1Cur_pick, good_spec_l1Cur_pick⟩, ⟨fn_spec_l1Cur_one, good_spec_l1Cur_one⟩, ⟨fn_spec_l1Cur_word28, goodR_spec_l1Cur_word28 d⟩, ⟨fn_spec_l28Put, good_spec_l28Put⟩, trivial⟩), (run_spec_l1Cur_word28 (R_spec_l1Cur_word28 d) big x).trans h⟩
theorem good_spec_l1Cur_word28 : Gx.Good Try.prog 46 S_spec_l1Cur_word28 := goodR_spec_l1Cur_word28 big

/-! spec_l1Cur_word -/
def spec_l1Cur_word_b10 (rec : ((List Int) × (Int × (Int × Unit))) → (List Int) → Option ((List Int) × (((List Int) × (Int × (Int × Unit))) × Unit))) (k : ((List Int) × (Int × (Int × Unit))) → (List Int) → Option ((List Int) × (((List Int) × (Int × (Int × Unit))) × Unit))) (c0 : ((List Int) × (Int × (Int × Unit)))) (w3 : (List Int)) : Option ((List Int) × (((List Int) × (Int × (Int × Unit))) × Unit)) :=
  (spec_l1Cur_pick c0 (4 : Int)).bind fun rq10 =>
  cond (decide ((w3.length : Int) < (IntKind.i64.wrap ((38 : Int) + rq10.1))))
  ((spec_l1Cur_pick rq10.2.1 (2 : Int)).bind fun rq11 =>
  (spec_l1Cur_pick rq11.2.1 (5 : Int)).bind fun rq12 =>
  (spec_l28Put (IntKind.i64.wrap ((-1 : Int) - rq11.1)) [rq12.1] w3).bind fun rq13 =>
  rec rq12.2.1 rq13.1)
  (k rq10.2.1 w3)
def spec_l1Cur_word_a10 (c0 : ((List Int) × (Int × (Int × Unit)))) (w3 : (List Int)) : Option ((List Int) × (((List Int) × (Int × (Int × Unit))) × Unit)) :=
  some (w3, (c0, ()))
def spec_l1Cur_word_s (L10 : ((List Int) × (Int × (Int × Unit))) → (List Int) → Option ((List Int) × (((List Int) × (Int × (Int × Unit))) × Unit))) (c_0 : ((List Int) × (Int × (Int × Unit)))) : Option ((List Int) × (((List Int) × (Int × (Int × Unit))) × Unit)) :=
  (spec_l1Cur_among c_0 [(1 : Int), (2 : Int), (3 : Int), (4 : Int), (5 : Int), (6 : Int), (7 : Int)]).bind fun rq1 =>
  (R_spec_l1Cur_word28 big (rq1.2.1, rq1.1, ())).bind fun rq2 =>
  (spec_l1Cur_pick rq2.2.1 (24 : Int)).bind fun rq3 =>
  cond (decide (rq3.1 = (0 : Int)))
  ((spec_l1Cur_among rq3.2.1 [(0 : Int), (-1 : Int)]).bind fun rq4 =>
  (appI rq2.1 [rq4.1]).bind fun xq5 =>
  some (xq5, (rq4.2.1, ())))
  (cond (decide (rq3.1 = (1 : Int)))
  ((spec_l1Cur_pick rq3.2.1 (rq2.1.length : Int)).bind fun rq6 =>
  (spec_l1Cur_among rq6.2.1 [(-3 : Int), (5 : Int), (4 : Int), (-1 : Int), (0 : Int)]).bind fun rq7 =>
  (atI rq2.1 rq6.1).bind fun _ =>
  (rq2.1[rq6.1.toNat]?).bind fun xq8 =>
  some (rq2.1.set rq6.1.toNat rq7.1, (rq7.2.1, ())))
  (cond (decide (rq3.1 = (2 : Int)))
  ((slI rq2.1 (1 : Int) rq2.1.length).bind fun xq9 =>
  some (xq9, (rq3.2.1, ())))
  (cond (decide (rq3.1 = (3 : Int)))
  (L10 rq3.2.1 rq2.1)
  (some (rq2.1, (rq3.2.1, ()))))))
def spec_l1Cur_word_l10 (N : Nat) (k : ((List Int) × (Int × (Int × Unit))) → (List Int) → Option ((List Int) × (((List Int) × (Int × (Int × Unit))) × Unit))) : Nat → ((List Int) × (Int × (Int × Unit))) → (List Int) → Option ((List Int) × (((List Int) × (Int × (Int × Unit))) × Unit))
  | 0, _, _ => none
  | m + 1, c0, w3 => spec_l1Cur_word_b10 (spec_l1Cur_word_l10 N k m) k c0 w3
def spec_l1Cur_word_F10 (N : Nat) (c0 : ((List Int) × (Int × (Int × Unit)))) (w3 : (List Int)) : Option ((List Int) × (((List Int) × (Int × (Int × Unit))) × Unit)) := spec_l1Cur_word_l10 N (spec_l1Cur_word_a10) N c0 w3
def spec_l1Cur_word (N : Nat) (c_0 : ((List Int) × (Int × (Int × Unit)))) : Option ((List Int) × (((List Int) × (Int × (Int × Unit))) × Unit)) := spec_l1Cur_word_s (spec_l1Cur_word_F10 N) c_0
def S_spec_l1Cur_word : Sig := { a := (.pair (.ptr (.pair (.sl (.int .u8)) (.pair I (.pair (.int .u64) .unit)))) .unit), md := [1], mf := [(.o .i)], m := (.pair (.ptr (.pair (.sl (.int .u8)) (.pair I (.pair (.int .u64) .unit)))) .unit), r := (.sl I), rf := .i, f := fun x => spec_l1Cur_word big x.1 }
def A_spec_l1Cur_word : Cfg := mkCfg tab [(33, S_spec_l1Cur_among), (46, S_spec_l1Cur_word28), (34, S_spec_l1Cur_pick), (38, S_spec_l28Put)] [(20, [.as (.ptr (.pair (.sl (.int .u8)) (.pair I (.pair (.int .u64) .unit)))) (.o .i), .drop, .drop, .as (.sl I) (.o .i)]), (25, [.as (.ptr (.pair (.sl (.int .u8)) (.pair I (.pair (.int .u64) .unit)))) (.o .i), .drop, .drop, .as (.sl I) .i])]
noncomputable def spec_l1Cur_word_R10 (N n : Nat) (K : Ex → St → Option ((List Int) × (((List Int) × (Int × (Int × Unit))) × Unit))) (c0 : ((List Int) × (Int × (Int × Unit)))) (w3 : (List Int)) : Option ((List Int) × (((List Int) × (Int × (Int × Unit))) × Unit)) := iter ((A_spec_l1Cur_word).shape 20) (run (A_spec_l1Cur_word) N (codeAt Try.f29 [1, 1, 0, 1, 0, 1, 1, 1, 1, 1, 1, 1, 0, 0, 0])) n ([.val (.ptr (.pair (.sl (.int .u8)) (.pair I (.pair (.int .u64) .unit)))) (.o .i) c0, .u, .u, .val (.sl I) (.o .i) w3] ++ List.replicate 47 .u) K
noncomputable abbrev spec_l1Cur_word_z : Ex → St → Option ((List Int) × (((List Int) × (Int × (Int × Unit))) × Unit)) := finish (A_spec_l1Cur_word) S_spec_l1Cur_word Try.f29.results.toList
noncomputable abbrev spec_l1Cur_word_X10 (kX : St → Option ((List Int) × (((List Int) × (Int × (Int × Unit))) × Unit))) : ((List Int) × (Int × (Int × Unit))) → (List Int) → Option ((List Int) × (((List Int) × (Int × (Int × Unit))) × Unit)) := fun (c0 : ((List Int) × (Int × (Int × Unit)))) (w3 : (List Int)) => kX ([.val (.ptr (.pair (.sl (.int .u8)) (.pair I (.pair (.int .u64) .unit)))) (.o .i) c0, .u, .u, .val (.sl I) .i w3] ++ List.replicate 47 .u)
noncomputable abbrev spec_l1Cur_word_E10 (kX : St → Option ((List Int) × (((List Int) × (Int × (Int × Unit))) × Unit))) (kO : Nat → St → Option ((List Int) × (((List Int) × (Int × (Int × Unit))) × Unit))) : Ex → St → Option ((List Int) × (((List Int) × (Int × (Int × Unit))) × Unit)) := exK spec_l1Cur_word_z 1 ((A_spec_l1Cur_word).shape 25) kX kO
theorem spec_l1Cur_word_step10 (N : Nat) (m : Nat) (kX : St → Option ((List Int) × (((List Int) × (Int × (Int × Unit))) × Unit))) (kO : Nat → St → Option ((List Int) × (((List Int) × (Int × (Int × Unit))) × Unit))) (c0 : ((List Int) × (Int × (Int × Unit)))) (w3 : (List Int)) : spec_l1Cur_word_R10 N (m + 1) (spec_l1Cur_word_E10 kX kO) c0 w3 = spec_l1Cur_word_b10 (spec_l1Cur_word_R10 N m (spec_l1Cur_word_E10 kX kO)) (spec_l1Cur_word_X10 kX) c0 w3 := by kernel_rfl
theorem spec_l1Cur_word_iter10 (N : Nat) (kX : St → Option ((List Int) × (((List Int) × (Int × (Int × Unit))) × Unit))) (kO : Nat → St → Option ((List Int) × (((List Int) × (Int × (Int × Unit))) × Unit))) : ∀ (n : Nat) (c0 : ((List Int) × (Int × (Int × Unit)))) (w3 : (List Int)), spec_l1Cur_word_R10 N n (spec_l1Cur_word_E10 kX kO) c0 w3 = spec_l1Cur_word_l10 N (spec_l1Cur_word_X10 kX) n c0 w3
  | 0, _, _ => rfl
  | m + 1, c0, w3 => by
    have hrec : spec_l1Cur_word_R10 N m (spec_l1Cur_word_E10 kX kO) = (spec_l1Cur_word_l10 N (spec_l1Cur_word_X10 kX) m) := (funext fun c0 => (funext fun w3 => spec_l1Cur_word_iter10 N kX kO m c0 w3))
    refine (spec_l1Cur_word_step10 N m kX kO c0 w3).trans ?_
    rw [hrec]
    rfl
noncomputable abbrev spec_l1Cur_word_K10 (N : Nat) : Ex → St → Option ((List Int) × (((List Int) × (Int × (Int × Unit))) × Unit)) := (blockK 1 (blockK 0 (seqK ((A_spec_l1Cur_word).shape 25) (run (A_spec_l1Cur_word) N (codeAt Try.f29 [1, 1, 1])) spec_l1Cur_word_z)))
noncomputable abbrev spec_l1Cur_word_k10 (N : Nat) : St → Option ((List Int) × (((List Int) × (Int × (Int × Unit))) × Unit)) := fun st' => run (A_spec_l1Cur_word) N (codeAt Try.f29 [1, 1, 1]) st' spec_l1Cur_word_z
theorem spec_l1Cur_word_after10 (N : Nat) (c0 : ((List Int) × (Int × (Int × Unit)))) (w3 : (List Int)) : spec_l1Cur_word_X10 (spec_l1Cur_word_k10 N) c0 w3 = spec_l1Cur_word_a10 c0 w3 := by kernel_rfl
theorem spec_l1Cur_word_in10 (N : Nat) (c0 : ((List Int) × (Int × (Int × Unit)))) (w3 : (List Int)) : spec_l1Cur_word_R10 N N (spec_l1Cur_word_K10 N) c0 w3 = spec_l1Cur_word_F10 N c0 w3 :=
  have h : spec_l1Cur_word_X10 (spec_l1Cur_word_k10 N) = (spec_l1Cur_word_a10) := (funext fun c0 => (funext fun w3 => spec_l1Cur_word_after10 N c0 w3))
  ((iter_ex (fun st => by kernel_rfl) (fun st => by kernel_rfl)).trans (spec_l1Cur_word_iter10 N (spec_l1Cur_word_k10 N) (fun j st => (spec_l1Cur_word_K10 N) (.exit j) st) N c0 w3)).trans (congrArg (fun k => spec_l1Cur_word_l10 N k N c0 w3) h)
theorem run0_spec_l1Cur_word (N : Nat) (x : (S_spec_l1Cur_word).a.den) : runF (A_spec_l1Cur_word) N Try.f29 S_spec_l1Cur_word x = (spec_l1Cur_word_s (spec_l1Cur_word_R10 N N (spec_l1Cur_word_K10 N)) x.1) := by kernel_rfl
theorem run_spec_l1Cur_word (N : Nat) (x : (S_spec_l1Cur_word).a.den) : runF (A_spec_l1Cur_word) N Try.f29 S_spec_l1Cur_word x = spec_l1Cur_word N x.1 := by
  refine (run0_spec_l1Cur_word N x).trans ?_
  rw [(funext fun c0 => (funext fun w3 => spec_l1Cur_word_in10 N c0 w3))]
  rfl
theorem fn_spec_l1Cur_word : FnOk Try.prog 29 := ⟨_, Try.func29, by kernel_rfl, by kernel_rfl⟩
theorem good_spec_l1Cur_word : Gx.Good Try.prog 29 S_spec_l1Cur_word := good_of_run Try.func29 (of_decide_eq_true (by kernel_rfl)) fun x r h => ⟨A_spec_l1Cur_word, big, mkCfg_ok tabOk, mkCfg_sigs (show SigsOk Try.prog [(33, S_spec_l1Cur_among), (46, S_spec_l1Cur_word28), (34, S_spec_l1Cur_pick), (38, S_spec_l28Put)] from ⟨⟨fn_spec_l1Cur_among, good_spec_l1Cur_among⟩, ⟨fn_spec_l1Cur_word28, good_spec_l1Cur_word28⟩, ⟨fn_spec_l1Cur_pick, good_spec_l1Cur_pick⟩, ⟨fn_spec_l28Put, good_spec_l28Put⟩, trivial⟩), (run_spec_l1Cur_word big x).trans h⟩

/-! spec_DrawIsWord -/
def spec_DrawIsWord_s (code_0 : (List Int)) : Option ((List Int) × Unit) :=
  (spec_l1Cur_word big (code_0, ((0 : Int), ((0 : Int), ())))).bind fun rq1 =>
  some (rq1.1, (()))
def spec_DrawIsWord (code_0 : (List Int)) : Option ((List Int) × Unit) := spec_DrawIsWord_s code_0
def S_spec_DrawIsWord : Sig := { a := (.pair (.sl (.int .u8)) .unit), md := [0], mf := [], m := .unit, r := (.sl I), rf := .i, f := fun x => spec_DrawIsWord x.1 }
def A_spec_DrawIsWord : Cfg := mkCfg tab [(29, S_spec_l1Cur_word)] []
theorem run_spec_DrawIsWord (N : Nat) (x : (S_spec_DrawIsWord).a.den) : runF (A_spec_DrawIsWord) N Try.f19 S_spec_DrawIsWord x = spec_DrawIsWord x.1 := by kernel_rfl
theorem fn_spec_DrawIsWord : FnOk Try.prog 19 := ⟨_, Try.func19, by kernel_rfl, by kernel_rfl⟩
theorem good_spec_DrawIsWord : Gx.Good Try.prog 19 S_spec_DrawIsWord := good_of_run Try.func19 (of_decide_eq_true (by kernel_rfl)) fun x r h => ⟨A_spec_DrawIsWord, big, mkCfg_ok tabOk, mkCfg_sigs (show SigsOk Try.prog [(29, S_spec_l1Cur_word)] from ⟨⟨fn_spec_l1Cur_word, good_spec_l1Cur_word⟩, trivial⟩), (run_spec_DrawIsWord big x).trans h⟩

/-! spec_DrawWordText -/
def spec_DrawWordText_s (code_0 : (List Int)) : Option ((List Int) × Unit) :=
  (spec_DrawIsWord code_0).bind fun rq1 =>
  some (rq1.1, (()))
def spec_DrawWordText (code_0 : (List Int)) : Option ((List Int) × Unit) := spec_DrawWordText_s code_0
def S_spec_DrawWordText : Sig := { a := (.pair (.sl (.int .u8)) .unit), md := [0], mf := [], m := .unit, r := (.sl I), rf := .i, f := fun x => spec_DrawWordText x.1 }
def A_spec_DrawWordText : Cfg := mkCfg tab [(19, S_spec_DrawIsWord)] []
theorem run_spec_DrawWordText (N : Nat) (x : (S_spec_DrawWordText).a.den) : runF (A_spec_DrawWordText) N Try.f5 S_spec_DrawWordText x = spec_DrawWordText x.1 := by kernel_rfl
theorem fn_spec_DrawWordText : FnOk Try.prog 5 := ⟨_, Try.func5, by kernel_rfl, by kernel_rfl⟩
theorem good_spec_DrawWordText : Gx.Good Try.prog 5 S_spec_DrawWordText := good_of_run Try.func5 (of_decide_eq_true (by kernel_rfl)) fun x r h => ⟨A_spec_DrawWordText, big, mkCfg_ok tabOk, mkCfg_sigs (show SigsOk Try.prog [(19, S_spec_DrawIsWord)] from ⟨⟨fn_spec_DrawIsWord, good_spec_DrawIsWord⟩, trivial⟩), (run_spec_DrawWordText big x).trans h⟩

/-! impl_wordEnd -/
def impl_wordEnd_b2 (rec : (List Int) → Int → Int → Option (Int × Unit)) (k : Int → Option (Int × Unit)) (w0 : (List Int)) (at1 : Int) (need5 : Int) : Option (Int × Unit) :=
  cond (decide ((0 : Int) < need5))
  (cond (decide ((w0.length : Int) ≤ at1))
  (some ((-1 : Int), (())))
  ((atI w0 at1).bind fun xq1 =>
  cond (decide (xq1 < (-2 : Int)))
  (some ((-1 : Int), (())))
  ((atI w0 at1).bind fun xq2 =>
  cond (decide ((5 : Int) ≤ xq2))
  (some ((-1 : Int), (())))
  ((atI w0 at1).bind fun xq3 =>
  cond (decide ((0 : Int) ≤ xq3))
  (rec w0 (IntKind.i64.wrap (at1 + (1 : Int))) (IntKind.i64.wrap (need5 - (1 : Int))))
  (rec w0 (IntKind.i64.wrap (at1 + (1 : Int))) (IntKind.i64.wrap (need5 + (1 : Int))))))))
  (k at1)
def impl_wordEnd_a2 (at1 : Int) : Option (Int × Unit) :=
  some (at1, (()))
def impl_wordEnd_s (L2 : (List Int) → Int → Int → Option (Int × Unit)) (w_0 : (List Int)) (at_1 : Int) : Option (Int × Unit) :=
  L2 w_0 at_1 (1 : Int)
def impl_wordEnd_l2 (N : Nat) (k : Int → Option (Int × Unit)) : Nat → (List Int) → Int → Int → Option (Int × Unit)
  | 0, _, _, _ => none
  | m + 1, w0, at1, need5 => impl_wordEnd_b2 (impl_wordEnd_l2 N k m) k w0 at1 need5
def impl_wordEnd_F2 (N : Nat) (w0 : (List Int)) (at1 : Int) (need5 : Int) : Option (Int × Unit) := impl_wordEnd_l2 N (impl_wordEnd_a2) N w0 at1 need5
def impl_wordEnd (N : Nat) (w_0 : (List Int)) (at_1 : Int) : Option (Int × Unit) := impl_wordEnd_s (impl_wordEnd_F2 N) w_0 at_1
def S_impl_wordEnd : Sig := { a := (.pair (.sl I) (.pair I .unit)), md := [0, 0], mf := [], m := .unit, r := I, rf := .i, f := fun x => impl_wordEnd big x.1 x.2.1 }
def A_impl_wordEnd : Cfg := mkCfg tab [] [(4, [.as (.sl I) .i, .as I .i, .drop, .drop, .drop, .as I .i]), (19, [.drop, .as I .i])]
noncomputable def impl_wordEnd_R2 (N n : Nat) (K : Ex → St → Option (Int × Unit)) (w0 : (List Int)) (at1 : Int) (need5 : Int) : Option (Int × Unit) := iter ((A_impl_wordEnd).shape 4) (run (A_impl_wordEnd) N (codeAt Try.f40 [1, 0, 1, 0, 0])) n ([.val (.sl I) .i w0, .val I .i at1, .u, .u, .u, .val I .i need5] ++ List.replicate 32 .u) K
noncomputable abbrev impl_wordEnd_z : Ex → St → Option (Int × Unit) := finish (A_impl_wordEnd) S_impl_wordEnd Try.f40.results.toList
noncomputable abbrev impl_wordEnd_X2 (kX : St → Option (Int × Unit)) : Int → Option (Int × Unit) := fun (at1 : Int) => kX ([.u, .val I .i at1] ++ List.replicate 36 .u)
noncomputable abbrev impl_wordEnd_E2 (kX : St → Option (Int × Unit)) (kO : Nat → St → Option (Int × Unit)) : Ex → St → Option (Int × Unit) := exK impl_wordEnd_z 0 ((A_impl_wordEnd).shape 19) kX kO
theorem impl_wordEnd_step2 (N : Nat) (m : Nat) (kX : St → Option (Int × Unit)) (kO : Nat → St → Option (Int × Unit)) (w0 : (List Int)) (at1 : Int) (need5 : Int) : impl_wordEnd_R2 N (m + 1) (impl_wordEnd_E2 kX kO) w0 at1 need5 = impl_wordEnd_b2 (impl_wordEnd_R2 N m (impl_wordEnd_E2 kX kO)) (impl_wordEnd_X2 kX) w0 at1 need5 := by kernel_rfl
theorem impl_wordEnd_iter2 (N : Nat) (kX : St → Option (Int × Unit)) (kO : Nat → St → Option (Int × Unit)) : ∀ (n : Nat) (w0 : (List Int)) (at1 : Int) (need5 : Int), impl_wordEnd_R2 N n (impl_wordEnd_E2 kX kO) w0 at1 need5 = impl_wordEnd_l2 N (impl_wordEnd_X2 kX) n w0 at1 need5
  | 0, _, _, _ => rfl
  | m + 1, w0, at1, need5 => by
    have hrec : impl_wordEnd_R2 N m (impl_wordEnd_E2 kX kO) = (impl_wordEnd_l2 N (impl_wordEnd_X2 kX) m) := (funext fun w0 => (funext fun at1 => (funext fun need5 => impl_wordEnd_iter2 N kX kO m w0 at1 need5)))
    refine (impl_wordEnd_step2 N m kX kO w0 at1 need5).trans ?_
    rw [hrec]
    rfl
noncomputable abbrev impl_wordEnd_K2 (N : Nat) : Ex → St → Option (Int × Unit) := (blockK 0 (seqK ((A_impl_wordEnd).shape 19) (run (A_impl_wordEnd) N (codeAt Try.f40 [1, 1])) impl_wordEnd_z))
noncomputable abbrev impl_wordEnd_k2 (N : Nat) : St → Option (Int × Unit) := fun st' => run (A_impl_wordEnd) N (codeAt Try.f40 [1, 1]) st' impl_wordEnd_z
theorem impl_wordEnd_after2 (N : Nat) (at1 : Int) : impl_wordEnd_X2 (impl_wordEnd_k2 N) at1 = impl_wordEnd_a2 at1 := by kernel_rfl
theorem impl_wordEnd_in2 (N : Nat) (w0 : (List Int)) (at1 : Int) (need5 : Int) : impl_wordEnd_R2 N N (impl_wordEnd_K2 N) w0 at1 need5 = impl_wordEnd_F2 N w0 at1 need5 :=
  have h : impl_wordEnd_X2 (impl_wordEnd_k2 N) = (impl_wordEnd_a2) := (funext fun at1 => impl_wordEnd_after2 N at1)
  ((iter_ex (fun st => by kernel_rfl) (fun st => by kernel_rfl)).trans (impl_wordEnd_iter2 N (impl_wordEnd_k2 N) (fun j st => (impl_wordEnd_K2 N) (.exit j) st) N w0 at1 need5)).trans (congrArg (fun k => impl_wordEnd_l2 N k N w0 at1 need5) h)
theorem run0_impl_wordEnd (N : Nat) (x : (S_impl_wordEnd).a.den) : runF (A_impl_wordEnd) N Try.f40 S_impl_wordEnd x = (impl_wordEnd_s (impl_wordEnd_R2 N N (impl_wordEnd_K2 N)) x.1 x.2.1) := by kernel_rfl
theorem run_impl_wordEnd (N : Nat) (x : (S_impl_wordEnd).a.den) : runF (A_impl_wordEnd) N Try.f40 S_impl_wordEnd x = impl_wordEnd N x.1 x.2.1 := by
  refine (run0_impl_wordEnd N x).trans ?_
  rw [(funext fun w0 => (funext fun at1 => (funext fun need5 => impl_wordEnd_in2 N w0 at1 need5)))]
  rfl
theorem fn_impl_wordEnd : FnOk Try.prog 40 := ⟨_, Try.func40, by kernel_rfl, by kernel_rfl⟩
theorem good_impl_wordEnd : Gx.Good Try.prog 40 S_impl_wordEnd := good_of_run Try.func40 (of_decide_eq_true (by kernel_rfl)) fun x r h => ⟨A_impl_wordEnd, big, mkCfg_ok tabOk, mkCfg_sigs (show SigsOk Try.prog [] from trivial), (run_impl_wordEnd big x).trans h⟩

/-! impl_IsWord -/
def impl_IsWord_s (w_0 : (List Int)) : Option (Bool × Unit) :=
  cond (decide ((w_0.length : Int) ≤ (40 : Int)))
  ((impl_wordEnd big w_0 (0 : Int)).bind fun rq1 =>
  some (decide (rq1.1 = (w_0.length : Int)), (())))
  (some (false, (())))
def impl_IsWord (w_0 : (List Int)) : Option (Bool × Unit) := impl_IsWord_s w_0
def S_impl_IsWord : Sig := { a := (.pair (.sl I) .unit), md := [0], mf := [], m := .unit, r := .bool, rf := .i, f := fun x => impl_IsWord x.1 }
def A_impl_IsWord : Cfg := mkCfg tab [(40, S_impl_wordEnd)] []
theorem run_impl_IsWord (N : Nat) (x : (S_impl_IsWord).a.den) : runF (A_impl_IsWord) N Try.f20 S_impl_IsWord x = impl_IsWord x.1 := by kernel_rfl
theorem fn_impl_IsWord : FnOk Try.prog 20 := ⟨_, Try.func20, by kernel_rfl, by kernel_rfl⟩
theorem good_impl_IsWord : Gx.Good Try.prog 20 S_impl_IsWord := good_of_run Try.func20 (of_decide_eq_true (by kernel_rfl)) fun x r h => ⟨A_impl_IsWord, big, mkCfg_ok tabOk, mkCfg_sigs (show SigsOk Try.prog [(40, S_impl_wordEnd)] from ⟨⟨fn_impl_wordEnd, good_impl_wordEnd⟩, trivial⟩), (run_impl_IsWord big x).trans h⟩
end Go.Proofs.Ytcfhllnenhfigaa
