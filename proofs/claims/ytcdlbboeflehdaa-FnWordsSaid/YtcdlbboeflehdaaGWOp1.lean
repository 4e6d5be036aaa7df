import Derived.Test.YtcdlbboeflehdaaGxBox
import Derived.Test.YtcdlbboeflehdaaRows
import Derived.Test.YtcdlbboeflehdaaChecked
import Derived.KernelRfl
set_option maxRecDepth 100000
set_option linter.unusedVariables false
namespace Go.Proofs.Ytcdlbboeflehdaa
open Go Go.Gx Go.Proofs

abbrev I := Ty.int .i64
abbrev Y1 := (Option ((List (List Bool)) × ((List (List Int)) × ((List (List Int)) × Unit))))
abbrev Y2 := ((List (List Int)) × Unit)
abbrev Y7 := (Int × ((List (Int × ((List Int) × Unit))) × Unit))
abbrev Y6 := (Int × ((List Int) × Unit))
abbrev Y3 := (List (List Int))
abbrev Y4 := (List Int)
abbrev Y5 := (List (List Bool))
abbrev Z0 := (Int × (Int × Unit))
abbrev Z1 := Option (Bool × Unit)
abbrev Z2 := Option (Y2 × Unit)
abbrev Z3 := Option (Y2 × ((Y4 × Z0) × Unit))
abbrev Z4 := Option (Int × Unit)
abbrev Z5 := Option ((Y5 × (Bool × Unit)) × Unit)
abbrev Z6 := Option ((Y3 × (Bool × Unit)) × Unit)
abbrev Z7 := (Y4 × (Y4 × ((List (Z0 × Bool)) × Unit)))
abbrev Z8 := Option (Y4 × ((Y4 × Z0) × Unit))
abbrev Z9 := Option (Y5 × Unit)
abbrev Z10 := (Y4 × Z0)
abbrev Z11 := (Y4 × Unit)
abbrev Z12 := (List Z0)
abbrev Z13 := Option (Z12 × Unit)
abbrev Z14 := Option ((Y2 × (Y4 × Z11)) × Unit)
abbrev Z15 := Option (Bool × (Z7 × Unit))
abbrev Z16 := (Y4 × (Y4 × (Int × Y6)))
abbrev Z17 := Option (Bool × Z11)
def tab : Tab := { es := [(22, (.int .u8), .i), (24, I, .i), (33, (.sl I), (.o .i)), (69, (.sl .bool), (.o .i)), (70, (.sl .bool), (.o .i)), (79, .bool, .i), (103, (.pair I (.pair I .unit)), .i)], ts := [(3, I, .i), (4, .bool, .i), (5, (.int .u8), .i), (22, (.sl (.int .u8)), (.o .i)), (24, (.sl I), (.o .i)), (33, (.sl (.sl I)), (.o (.o .i))), (35, (.pair (.sl (.sl I)) .unit), (.p (.o (.o .i)) .i)), (52, (.ptr (.pair (.sl (.int .u8)) (.pair I (.pair (.int .u64) .unit)))), (.o (.p (.o .i) .i))), (53, (.int .u64), .i), (55, (.pair (.sl (.int .u8)) (.pair I (.pair (.int .u64) .unit))), (.p (.o .i) .i)), (65, (.opt (.pair (.sl (.sl .bool)) (.pair (.sl (.sl I)) (.pair (.sl (.sl I)) .unit)))), .i), (69, (.sl (.sl .bool)), (.o (.o .i))), (70, (.sl (.sl .bool)), (.o (.o .i))), (72, (.pair (.sl (.sl .bool)) (.pair (.sl (.sl I)) (.pair (.sl (.sl I)) .unit))), (.p (.o (.o .i)) (.p (.o (.o .i)) (.p (.o (.o .i)) .i)))), (79, (.sl .bool), (.o .i)), (96, (.ptr (.pair (.sl I) (.pair (.sl I) (.pair (.map (.pair I (.pair I .unit)) .bool) .unit)))), (.o (.p (.o .i) (.p (.o .i) (.p (.o .i) .i))))), (97, (.map (.pair I (.pair I .unit)) .bool), (.o .i)), (99, (.pair (.sl I) (.pair (.sl I) (.pair (.map (.pair I (.pair I .unit)) .bool) .unit))), (.p (.o .i) (.p (.o .i) (.p (.o .i) .i)))), (103, (.sl (.pair I (.pair I .unit))), (.o .i)), (105, (.pair I (.pair I .unit)), .i)], fs := [(35, [((.sl (.sl I)), (.o (.o .i)))]), (55, [((.sl (.int .u8)), (.o .i)), (I, .i), ((.int .u64), .i)]), (72, [((.sl (.sl .bool)), (.o (.o .i))), ((.sl (.sl I)), (.o (.o .i))), ((.sl (.sl I)), (.o (.o .i)))]), (99, [((.sl I), (.o .i)), ((.sl I), (.o .i)), ((.map (.pair I (.pair I .unit)) .bool), (.o .i))])], ars := [(105, I, .i, 2)], ms := [(97, (.pair I (.pair I .unit)), .bool)] }
theorem tabOk : tab.chk Try.prog = true := by kernel_rfl

/-! zz0 -/
def zz0_s (code_0 : Y4) : Z1 :=
  some (decide ((65536 : Int) < (code_0.length : Int)), (()))
def zz0 (code_0 : Y4) : Z1 := zz0_s code_0
def S_zz0 : Sig := { a := (.pair (.sl (.int .u8)) .unit), md := [0], mf := [], m := .unit, r := .bool, rf := .i, f := fun x => zz0 x.1 }
def A_zz0 : Cfg := mkCfg tab [] []
theorem run_zz0 (N : Nat) (x : (S_zz0).a.den) : runF (A_zz0) N Try.f5 S_zz0 x = zz0 x.1 := by kernel_rfl
theorem fn_zz0 : FnOk Try.prog 5 := ⟨_, Try.func5, by kernel_rfl, by kernel_rfl⟩
theorem good_zz0 : Gx.Good Try.prog 5 S_zz0 := good_of_run Try.func5 (of_decide_eq_true (by kernel_rfl)) fun x r h => ⟨A_zz0, big, mkCfg_ok tabOk, mkCfg_sigs (show SigsOk Try.prog [] from trivial), (run_zz0 big x).trans h⟩

/-! zz1 -/
def zz1_s (c_0 : Z10) : Option (Int × (Z10 × Unit)) :=
  cond (decide (c_0.2.1 < (c_0.1.length : Int)))
  ((atI c_0.1 c_0.2.1).bind fun xq1 =>
  cond (decide (((((c_0.1, (IntKind.i64.wrap (c_0.2.1 + (1 : Int)), c_0.2.2)).1, (((c_0.1, (IntKind.i64.wrap (c_0.2.1 + (1 : Int)), c_0.2.2)).2).1, (IntKind.u64.wrap ((IntKind.u64.wrap ((IntKind.u64.wrap (((((c_0.1, (IntKind.i64.wrap (c_0.2.1 + (1 : Int)), c_0.2.2)).2).2).1) * (6364136223846793005 : Int))) + (IntKind.u64.wrap (IntKind.i64.wrap xq1)))) + (550289 : Int)), (((c_0.1, (IntKind.i64.wrap (c_0.2.1 + (1 : Int)), c_0.2.2)).2).2).2))).2).1) ≤ ((((c_0.1, (IntKind.i64.wrap (c_0.2.1 + (1 : Int)), c_0.2.2)).1, (((c_0.1, (IntKind.i64.wrap (c_0.2.1 + (1 : Int)), c_0.2.2)).2).1, (IntKind.u64.wrap ((IntKind.u64.wrap ((IntKind.u64.wrap (((((c_0.1, (IntKind.i64.wrap (c_0.2.1 + (1 : Int)), c_0.2.2)).2).2).1) * (6364136223846793005 : Int))) + (IntKind.u64.wrap (IntKind.i64.wrap xq1)))) + (550289 : Int)), (((c_0.1, (IntKind.i64.wrap (c_0.2.1 + (1 : Int)), c_0.2.2)).2).2).2))).1).length : Int)))
  (some (IntKind.i64.wrap xq1, (((c_0.1, (IntKind.i64.wrap (c_0.2.1 + (1 : Int)), c_0.2.2)).1, (((c_0.1, (IntKind.i64.wrap (c_0.2.1 + (1 : Int)), c_0.2.2)).2).1, (IntKind.u64.wrap ((IntKind.u64.wrap ((IntKind.u64.wrap (((((c_0.1, (IntKind.i64.wrap (c_0.2.1 + (1 : Int)), c_0.2.2)).2).2).1) * (6364136223846793005 : Int))) + (IntKind.u64.wrap (IntKind.i64.wrap xq1)))) + (550289 : Int)), (((c_0.1, (IntKind.i64.wrap (c_0.2.1 + (1 : Int)), c_0.2.2)).2).2).2))), ())))
  ((shrI IntKind.u64 (((((c_0.1, (IntKind.i64.wrap (c_0.2.1 + (1 : Int)), c_0.2.2)).1, (((c_0.1, (IntKind.i64.wrap (c_0.2.1 + (1 : Int)), c_0.2.2)).2).1, (IntKind.u64.wrap ((IntKind.u64.wrap ((IntKind.u64.wrap (((((c_0.1, (IntKind.i64.wrap (c_0.2.1 + (1 : Int)), c_0.2.2)).2).2).1) * (6364136223846793005 : Int))) + (IntKind.u64.wrap (IntKind.i64.wrap xq1)))) + (550289 : Int)), (((c_0.1, (IntKind.i64.wrap (c_0.2.1 + (1 : Int)), c_0.2.2)).2).2).2))).2).2).1) (40 : Int)).bind fun xq2 =>
  some (IntKind.i64.wrap (bitI .and IntKind.u64 xq2 (255 : Int)), (((c_0.1, (IntKind.i64.wrap (c_0.2.1 + (1 : Int)), c_0.2.2)).1, (((c_0.1, (IntKind.i64.wrap (c_0.2.1 + (1 : Int)), c_0.2.2)).2).1, (IntKind.u64.wrap ((IntKind.u64.wrap ((IntKind.u64.wrap (((((c_0.1, (IntKind.i64.wrap (c_0.2.1 + (1 : Int)), c_0.2.2)).2).2).1) * (6364136223846793005 : Int))) + (IntKind.u64.wrap (IntKind.i64.wrap xq1)))) + (550289 : Int)), (((c_0.1, (IntKind.i64.wrap (c_0.2.1 + (1 : Int)), c_0.2.2)).2).2).2))), ()))))
  (cond (decide (((((c_0.1, (IntKind.i64.wrap (c_0.2.1 + (1 : Int)), c_0.2.2)).1, (((c_0.1, (IntKind.i64.wrap (c_0.2.1 + (1 : Int)), c_0.2.2)).2).1, (IntKind.u64.wrap ((IntKind.u64.wrap ((IntKind.u64.wrap (((((c_0.1, (IntKind.i64.wrap (c_0.2.1 + (1 : Int)), c_0.2.2)).2).2).1) * (6364136223846793005 : Int))) + (IntKind.u64.wrap (0 : Int)))) + (550289 : Int)), (((c_0.1, (IntKind.i64.wrap (c_0.2.1 + (1 : Int)), c_0.2.2)).2).2).2))).2).1) ≤ ((((c_0.1, (IntKind.i64.wrap (c_0.2.1 + (1 : Int)), c_0.2.2)).1, (((c_0.1, (IntKind.i64.wrap (c_0.2.1 + (1 : Int)), c_0.2.2)).2).1, (IntKind.u64.wrap ((IntKind.u64.wrap ((IntKind.u64.wrap (((((c_0.1, (IntKind.i64.wrap (c_0.2.1 + (1 : Int)), c_0.2.2)).2).2).1) * (6364136223846793005 : Int))) + (IntKind.u64.wrap (0 : Int)))) + (550289 : Int)), (((c_0.1, (IntKind.i64.wrap (c_0.2.1 + (1 : Int)), c_0.2.2)).2).2).2))).1).length : Int)))
  (some ((0 : Int), (((c_0.1, (IntKind.i64.wrap (c_0.2.1 + (1 : Int)), c_0.2.2)).1, (((c_0.1, (IntKind.i64.wrap (c_0.2.1 + (1 : Int)), c_0.2.2)).2).1, (IntKind.u64.wrap ((IntKind.u64.wrap ((IntKind.u64.wrap (((((c_0.1, (IntKind.i64.wrap (c_0.2.1 + (1 : Int)), c_0.2.2)).2).2).1) * (6364136223846793005 : Int))) + (IntKind.u64.wrap (0 : Int)))) + (550289 : Int)), (((c_0.1, (IntKind.i64.wrap (c_0.2.1 + (1 : Int)), c_0.2.2)).2).2).2))), ())))
  ((shrI IntKind.u64 (((((c_0.1, (IntKind.i64.wrap (c_0.2.1 + (1 : Int)), c_0.2.2)).1, (((c_0.1, (IntKind.i64.wrap (c_0.2.1 + (1 : Int)), c_0.2.2)).2).1, (IntKind.u64.wrap ((IntKind.u64.wrap ((IntKind.u64.wrap (((((c_0.1, (IntKind.i64.wrap (c_0.2.1 + (1 : Int)), c_0.2.2)).2).2).1) * (6364136223846793005 : Int))) + (IntKind.u64.wrap (0 : Int)))) + (550289 : Int)), (((c_0.1, (IntKind.i64.wrap (c_0.2.1 + (1 : Int)), c_0.2.2)).2).2).2))).2).2).1) (40 : Int)).bind fun xq3 =>
  some (IntKind.i64.wrap (bitI .and IntKind.u64 xq3 (255 : Int)), (((c_0.1, (IntKind.i64.wrap (c_0.2.1 + (1 : Int)), c_0.2.2)).1, (((c_0.1, (IntKind.i64.wrap (c_0.2.1 + (1 : Int)), c_0.2.2)).2).1, (IntKind.u64.wrap ((IntKind.u64.wrap ((IntKind.u64.wrap (((((c_0.1, (IntKind.i64.wrap (c_0.2.1 + (1 : Int)), c_0.2.2)).2).2).1) * (6364136223846793005 : Int))) + (IntKind.u64.wrap (0 : Int)))) + (550289 : Int)), (((c_0.1, (IntKind.i64.wrap (c_0.2.1 + (1 : Int)), c_0.2.2)).2).2).2))), ()))))
def zz1 (c_0 : Z10) : Option (Int × (Z10 × Unit)) := zz1_s c_0
def S_zz1 : Sig := { a := (.pair (.ptr (.pair (.sl (.int .u8)) (.pair I (.pair (.int .u64) .unit)))) .unit), md := [1], mf := [(.o .i)], m := (.pair (.ptr (.pair (.sl (.int .u8)) (.pair I (.pair (.int .u64) .unit)))) .unit), r := I, rf := .i, f := fun x => zz1 x.1 }
def A_zz1 : Cfg := mkCfg tab [] []
theorem run_zz1 (N : Nat) (x : (S_zz1).a.den) : runF (A_zz1) N Try.f88 S_zz1 x = zz1 x.1 := by kernel_rfl
theorem fn_zz1 : FnOk Try.prog 88 := ⟨_, Try.func88, by kernel_rfl, by kernel_rfl⟩
theorem good_zz1 : Gx.Good Try.prog 88 S_zz1 := good_of_run Try.func88 (of_decide_eq_true (by kernel_rfl)) fun x r h => ⟨A_zz1, big, mkCfg_ok tabOk, mkCfg_sigs (show SigsOk Try.prog [] from trivial), (run_zz1 big x).trans h⟩

/-! zz2 -/
def zz2_s (c_0 : Z10) (n_1 : Int) : Option (Int × (Z10 × Unit)) :=
  cond (decide (n_1 ≤ (1 : Int)))
  (some ((0 : Int), (c_0, ())))
  ((zz1 c_0).bind fun rq1 =>
  cond (decide ((200 : Int) < n_1))
  ((zz1 rq1.2.1).bind fun rq2 =>
  (remI (IntKind.i64.wrap ((IntKind.i64.wrap (rq1.1 * (256 : Int))) + rq2.1)) n_1).bind fun xq3 =>
  some (xq3, (rq2.2.1, ())))
  ((remI rq1.1 n_1).bind fun xq4 =>
  some (xq4, (rq1.2.1, ()))))
def zz2 (c_0 : Z10) (n_1 : Int) : Option (Int × (Z10 × Unit)) := zz2_s c_0 n_1
def S_zz2 : Sig := { a := (.pair (.ptr (.pair (.sl (.int .u8)) (.pair I (.pair (.int .u64) .unit)))) (.pair I .unit)), md := [1, 0], mf := [(.o .i)], m := (.pair (.ptr (.pair (.sl (.int .u8)) (.pair I (.pair (.int .u64) .unit)))) .unit), r := I, rf := .i, f := fun x => zz2 x.1 x.2.1 }
def A_zz2 : Cfg := mkCfg tab [(88, S_zz1)] []
theorem run_zz2 (N : Nat) (x : (S_zz2).a.den) : runF (A_zz2) N Try.f39 S_zz2 x = zz2 x.1 x.2.1 := by kernel_rfl
theorem fn_zz2 : FnOk Try.prog 39 := ⟨_, Try.func39, by kernel_rfl, by kernel_rfl⟩
theorem good_zz2 : Gx.Good Try.prog 39 S_zz2 := good_of_run Try.func39 (of_decide_eq_true (by kernel_rfl)) fun x r h => ⟨A_zz2, big, mkCfg_ok tabOk, mkCfg_sigs (show SigsOk Try.prog [(88, S_zz1)] from ⟨⟨fn_zz1, good_zz1⟩, trivial⟩), (run_zz2 big x).trans h⟩

/-! zz3 -/
def zz3_s (c_0 : Z10) (list_1 : Y4) : Option (Int × (Z10 × Unit)) :=
  (zz2 c_0 (list_1.length : Int)).bind fun rq1 =>
  (atI list_1 rq1.1).bind fun xq2 =>
  some (xq2, (rq1.2.1, ()))
def zz3 (c_0 : Z10) (list_1 : Y4) : Option (Int × (Z10 × Unit)) := zz3_s c_0 list_1
def S_zz3 : Sig := { a := (.pair (.ptr (.pair (.sl (.int .u8)) (.pair I (.pair (.int .u64) .unit)))) (.pair (.sl I) .unit)), md := [1, 0], mf := [(.o .i)], m := (.pair (.ptr (.pair (.sl (.int .u8)) (.pair I (.pair (.int .u64) .unit)))) .unit), r := I, rf := .i, f := fun x => zz3 x.1 x.2.1 }
def A_zz3 : Cfg := mkCfg tab [(39, S_zz2)] []
theorem run_zz3 (N : Nat) (x : (S_zz3).a.den) : runF (A_zz3) N Try.f87 S_zz3 x = zz3 x.1 x.2.1 := by kernel_rfl
theorem fn_zz3 : FnOk Try.prog 87 := ⟨_, Try.func87, by kernel_rfl, by kernel_rfl⟩
theorem good_zz3 : Gx.Good Try.prog 87 S_zz3 := good_of_run Try.func87 (of_decide_eq_true (by kernel_rfl)) fun x r h => ⟨A_zz3, big, mkCfg_ok tabOk, mkCfg_sigs (show SigsOk Try.prog [(39, S_zz2)] from ⟨⟨fn_zz2, good_zz2⟩, trivial⟩), (run_zz3 big x).trans h⟩

/-! zz4 -/
def zz4_s (c_0 : Z10) (n_1 : Int) : Option (Bool × (Z10 × Unit)) :=
  (zz2 c_0 n_1).bind fun rq1 =>
  some (decide (rq1.1 = (0 : Int)), (rq1.2.1, ()))
def zz4 (c_0 : Z10) (n_1 : Int) : Option (Bool × (Z10 × Unit)) := zz4_s c_0 n_1
def S_zz4 : Sig := { a := (.pair (.ptr (.pair (.sl (.int .u8)) (.pair I (.pair (.int .u64) .unit)))) (.pair I .unit)), md := [1, 0], mf := [(.o .i)], m := (.pair (.ptr (.pair (.sl (.int .u8)) (.pair I (.pair (.int .u64) .unit)))) .unit), r := .bool, rf := .i, f := fun x => zz4 x.1 x.2.1 }
def A_zz4 : Cfg := mkCfg tab [(39, S_zz2)] []
theorem run_zz4 (N : Nat) (x : (S_zz4).a.den) : runF (A_zz4) N Try.f50 S_zz4 x = zz4 x.1 x.2.1 := by kernel_rfl
theorem fn_zz4 : FnOk Try.prog 50 := ⟨_, Try.func50, by kernel_rfl, by kernel_rfl⟩
theorem good_zz4 : Gx.Good Try.prog 50 S_zz4 := good_of_run Try.func50 (of_decide_eq_true (by kernel_rfl)) fun x r h => ⟨A_zz4, big, mkCfg_ok tabOk, mkCfg_sigs (show SigsOk Try.prog [(39, S_zz2)] from ⟨⟨fn_zz2, good_zz2⟩, trivial⟩), (run_zz4 big x).trans h⟩

/-! zz5 -/
def zz5_s (sign_0 : Int) (s_1 t_2 : Y4) : Option Z11 :=
  (appI [sign_0] s_1).bind fun xq1 =>
  (appI xq1 t_2).bind fun xq2 =>
  some (xq2, (()))
def zz5 (sign_0 : Int) (s_1 t_2 : Y4) : Option Z11 := zz5_s sign_0 s_1 t_2
def S_zz5 : Sig := { a := (.pair I (.pair (.sl I) (.pair (.sl I) .unit))), md := [0, 0, 0], mf := [], m := .unit, r := (.sl I), rf := (.o .i), f := fun x => zz5 x.1 x.2.1 x.2.2.1 }
def A_zz5 : Cfg := mkCfg tab [] []
theorem run_zz5 (N : Nat) (x : (S_zz5).a.den) : runF (A_zz5) N Try.f40 S_zz5 x = zz5 x.1 x.2.1 x.2.2.1 := by kernel_rfl
theorem fn_zz5 : FnOk Try.prog 40 := ⟨_, Try.func40, by kernel_rfl, by kernel_rfl⟩
theorem good_zz5 : Gx.Good Try.prog 40 S_zz5 := good_of_run Try.func40 (of_decide_eq_true (by kernel_rfl)) fun x r h => ⟨A_zz5, big, mkCfg_ok tabOk, mkCfg_sigs (show SigsOk Try.prog [] from trivial), (run_zz5 big x).trans h⟩

/-! types of zz6 -/
def T_zz6 (self : (Z10 × (Int × Unit)) → Z8) : Sig := { a := (.pair (.ptr (.pair (.sl (.int .u8)) (.pair I (.pair (.int .u64) .unit)))) (.pair I .unit)), md := [1, 0], mf := [(.o .i)], m := (.pair (.ptr (.pair (.sl (.int .u8)) (.pair I (.pair (.int .u64) .unit)))) .unit), r := (.sl I), rf := (.o .i), f := self }

/-! zz6 -/
def zz6_s (self_zz6 : (Z10 × (Int × Unit)) → Z8) (c_0 : Z10) (size_1 : Int) : Z8 :=
  cond (decide (size_1 ≤ (1 : Int)))
  ((zz2 c_0 (4 : Int)).bind fun rq1 =>
  some ([rq1.1], (rq1.2.1, ())))
  ((zz4 c_0 (4 : Int)).bind fun rq2 =>
  cond rq2.1
  ((zz2 rq2.2.1 (4 : Int)).bind fun rq3 =>
  some ([rq3.1], (rq3.2.1, ())))
  ((zz2 rq2.2.1 (IntKind.i64.wrap (size_1 - (1 : Int)))).bind fun rq4 =>
  (zz2 rq4.2.1 (2 : Int)).bind fun rq5 =>
  (self_zz6 (rq5.2.1, IntKind.i64.wrap ((1 : Int) + rq4.1), ())).bind fun rq6 =>
  (self_zz6 (rq6.2.1, IntKind.i64.wrap (size_1 - (IntKind.i64.wrap ((1 : Int) + rq4.1))), ())).bind fun rq7 =>
  (zz5 (IntKind.i64.wrap ((-1 : Int) - rq5.1)) rq6.1 rq7.1).bind fun rq8 =>
  some (rq8.1, (rq7.2.1, ()))))
def zz6 (self_zz6 : (Z10 × (Int × Unit)) → Z8) (c_0 : Z10) (size_1 : Int) : Z8 := zz6_s self_zz6 c_0 size_1
def A_zz6 (self_zz6 : (Z10 × (Int × Unit)) → Z8) : Cfg := mkCfg tab [(39, S_zz2), (50, S_zz4), (86, T_zz6 self_zz6), (40, S_zz5)] []
theorem run_zz6 (self_zz6 : (Z10 × (Int × Unit)) → Z8) (N : Nat) (x : ((T_zz6 self_zz6)).a.den) : runF (A_zz6 self_zz6) N Try.f86 (T_zz6 self_zz6) x = zz6 self_zz6 x.1 x.2.1 := by kernel_rfl
theorem fn_zz6 : FnOk Try.prog 86 := ⟨_, Try.func86, by kernel_rfl, by kernel_rfl⟩

/-! zz78 -/
def R_zz6 : Nat → (Z10 × (Int × Unit)) → Z8
  | 0, _ => none
  | d + 1, x => zz6 (R_zz6 d) x.1 x.2.1
def S_zz6 : Sig := T_zz6 (R_zz6 big)
theorem goodR_spec_l1Cur_word28 : ∀ d, Gx.Good Try.prog 86 (T_zz6 (R_zz6 d))
  | 0 => fun x r h => by cases h
  | d + 1 => good_of_run Try.func86 (of_decide_eq_true (by kernel_rfl)) fun x r h => ⟨A_zz6 (R_zz6 d), big, mkCfg_ok tabOk, mkCfg_sigs (show SigsOk Try.prog [(39, S_zz2), (50, S_zz4), (86, T_zz6 (R_zz6 d)), (40, S_zz5)] from ⟨⟨fn_zz2, good_zz2⟩, ⟨fn_zz4, good_zz4⟩, ⟨fn_zz6, goodR_spec_l1Cur_word28 d⟩, ⟨fn_zz5, good_zz5⟩, trivial⟩), (run_zz6 (R_zz6 d) big x).trans h⟩
theorem good_zz6 : Gx.Good Try.prog 86 S_zz6 := goodR_spec_l1Cur_word28 big

/-! zz8 -/
def zz8_b10 (rec k : Z10 → Y4 → Z8) (c0 : Z10) (w3 : Y4) : Z8 :=
  (zz2 c0 (4 : Int)).bind fun rq10 =>
  cond (decide ((w3.length : Int) < (IntKind.i64.wrap ((38 : Int) + rq10.1))))
  ((zz2 rq10.2.1 (2 : Int)).bind fun rq11 =>
  (zz2 rq11.2.1 (5 : Int)).bind fun rq12 =>
  (zz5 (IntKind.i64.wrap ((-1 : Int) - rq11.1)) [rq12.1] w3).bind fun rq13 =>
  rec rq12.2.1 rq13.1)
  (k rq10.2.1 w3)
def zz8_a10 (c0 : Z10) (w3 : Y4) : Z8 :=
  some (w3, (c0, ()))
def zz8_s (L10 : Z10 → Y4 → Z8) (c_0 : Z10) : Z8 :=
  (zz3 c_0 [(1 : Int), (2 : Int), (3 : Int), (4 : Int), (5 : Int), (6 : Int), (7 : Int)]).bind fun rq1 =>
  (R_zz6 big (rq1.2.1, rq1.1, ())).bind fun rq2 =>
  (zz2 rq2.2.1 (24 : Int)).bind fun rq3 =>
  cond (decide (rq3.1 = (0 : Int)))
  ((zz3 rq3.2.1 [(0 : Int), (-1 : Int)]).bind fun rq4 =>
  (appI rq2.1 [rq4.1]).bind fun xq5 =>
  some (xq5, (rq4.2.1, ())))
  (cond (decide (rq3.1 = (1 : Int)))
  ((zz2 rq3.2.1 (rq2.1.length : Int)).bind fun rq6 =>
  (zz3 rq6.2.1 [(-3 : Int), (5 : Int), (4 : Int), (-1 : Int), (0 : Int)]).bind fun rq7 =>
  (atI rq2.1 rq6.1).bind fun _ =>
  (rq2.1[rq6.1.toNat]?).bind fun xq8 =>
  some (rq2.1.set rq6.1.toNat rq7.1, (rq7.2.1, ())))
  (cond (decide (rq3.1 = (2 : Int)))
  ((slI rq2.1 (1 : Int) rq2.1.length).bind fun xq9 =>
  some (xq9, (rq3.2.1, ())))
  (cond (decide (rq3.1 = (3 : Int)))
  (L10 rq3.2.1 rq2.1)
  (some (rq2.1, (rq3.2.1, ()))))))
def zz8_l10 (N : Nat) (k : Z10 → Y4 → Z8) : Nat → Z10 → Y4 → Z8
  | 0, _, _ => none
  | m + 1, c0, w3 => zz8_b10 (zz8_l10 N k m) k c0 w3
def zz8_F10 (N : Nat) (c0 : Z10) (w3 : Y4) : Z8 := zz8_l10 N (zz8_a10) N c0 w3
def zz8 (N : Nat) (c_0 : Z10) : Z8 := zz8_s (zz8_F10 N) c_0
def S_zz8 : Sig := { a := (.pair (.ptr (.pair (.sl (.int .u8)) (.pair I (.pair (.int .u64) .unit)))) .unit), md := [1], mf := [(.o .i)], m := (.pair (.ptr (.pair (.sl (.int .u8)) (.pair I (.pair (.int .u64) .unit)))) .unit), r := (.sl I), rf := .i, f := fun x => zz8 big x.1 }
def A_zz8 : Cfg := mkCfg tab [(87, S_zz3), (86, S_zz6), (39, S_zz2), (40, S_zz5)] [(20, [.as (.ptr (.pair (.sl (.int .u8)) (.pair I (.pair (.int .u64) .unit)))) (.o .i), .drop, .drop, .as (.sl I) (.o .i)]), (25, [.as (.ptr (.pair (.sl (.int .u8)) (.pair I (.pair (.int .u64) .unit)))) (.o .i), .drop, .drop, .as (.sl I) .i])]
noncomputable def zz8_R10 (N n : Nat) (K : Ex → St → Z8) (c0 : Z10) (w3 : Y4) : Z8 := iter ((A_zz8).shape 20) (run (A_zz8) N (codeAt Try.f37 [1, 1, 0, 1, 0, 1, 1, 1, 1, 1, 1, 1, 0, 0, 0])) n ([.val (.ptr (.pair (.sl (.int .u8)) (.pair I (.pair (.int .u64) .unit)))) (.o .i) c0, .u, .u, .val (.sl I) (.o .i) w3] ++ List.replicate 47 .u) K
noncomputable abbrev zz8_z : Ex → St → Z8 := finish (A_zz8) S_zz8 Try.f37.results.toList
noncomputable abbrev zz8_X10 (kX : St → Z8) : Z10 → Y4 → Z8 := fun (c0 : Z10) (w3 : Y4) => kX ([.val (.ptr (.pair (.sl (.int .u8)) (.pair I (.pair (.int .u64) .unit)))) (.o .i) c0, .u, .u, .val (.sl I) .i w3] ++ List.replicate 47 .u)
noncomputable abbrev zz8_E10 (kX : St → Z8) (kO : Nat → St → Z8) : Ex → St → Z8 := exK zz8_z 1 ((A_zz8).shape 25) kX kO
theorem zz8_step10 (N m : Nat) (kX : St → Z8) (kO : Nat → St → Z8) (c0 : Z10) (w3 : Y4) : zz8_R10 N (m + 1) (zz8_E10 kX kO) c0 w3 = zz8_b10 (zz8_R10 N m (zz8_E10 kX kO)) (zz8_X10 kX) c0 w3 := by kernel_rfl
theorem zz8_iter10 (N : Nat) (kX : St → Z8) (kO : Nat → St → Z8) : ∀ (n : Nat) (c0 : Z10) (w3 : Y4), zz8_R10 N n (zz8_E10 kX kO) c0 w3 = zz8_l10 N (zz8_X10 kX) n c0 w3
  | 0, _, _ => rfl
  | m + 1, c0, w3 => by
    have hrec : zz8_R10 N m (zz8_E10 kX kO) = (zz8_l10 N (zz8_X10 kX) m) := (funext fun c0 => (funext fun w3 => zz8_iter10 N kX kO m c0 w3))
    refine (zz8_step10 N m kX kO c0 w3).trans ?_
    rw [hrec]
    rfl
noncomputable abbrev zz8_K10 (N : Nat) : Ex → St → Z8 := (blockK 1 (blockK 0 (seqK ((A_zz8).shape 25) (gated ((A_zz8).shape 500012).isSome N (run (A_zz8) N (codeAt Try.f37 [1, 1, 1]))) zz8_z)))
noncomputable abbrev zz8_k10 (N : Nat) : St → Z8 := fun st' => run (A_zz8) N (codeAt Try.f37 [1, 1, 1]) st' zz8_z
theorem zz8_after10 (N : Nat) (c0 : Z10) (w3 : Y4) : zz8_X10 (zz8_k10 N) c0 w3 = zz8_a10 c0 w3 := by kernel_rfl
theorem zz8_in10 (N : Nat) (c0 : Z10) (w3 : Y4) : zz8_R10 N N (zz8_K10 N) c0 w3 = zz8_F10 N c0 w3 :=
  have h : zz8_X10 (zz8_k10 N) = (zz8_a10) := (funext fun c0 => (funext fun w3 => zz8_after10 N c0 w3))
  ((iter_ex (fun st => by kernel_rfl) (fun st => by kernel_rfl)).trans (zz8_iter10 N (zz8_k10 N) (fun j st => (zz8_K10 N) (.exit j) st) N c0 w3)).trans (congrArg (fun k => zz8_l10 N k N c0 w3) h)
theorem run0_zz8 (N : Nat) (x : (S_zz8).a.den) : runF (A_zz8) N Try.f37 S_zz8 x = (zz8_s (zz8_R10 N N (zz8_K10 N)) x.1) := by kernel_rfl
theorem run_zz8 (N : Nat) (x : (S_zz8).a.den) : runF (A_zz8) N Try.f37 S_zz8 x = zz8 N x.1 := by
  refine (run0_zz8 N x).trans ?_
  rw [(funext fun c0 => (funext fun w3 => zz8_in10 N c0 w3))]
  rfl
theorem fn_zz8 : FnOk Try.prog 37 := ⟨_, Try.func37, by kernel_rfl, by kernel_rfl⟩
theorem good_zz8 : Gx.Good Try.prog 37 S_zz8 := good_of_run Try.func37 (of_decide_eq_true (by kernel_rfl)) fun x r h => ⟨A_zz8, big, mkCfg_ok tabOk, mkCfg_sigs (show SigsOk Try.prog [(87, S_zz3), (86, S_zz6), (39, S_zz2), (40, S_zz5)] from ⟨⟨fn_zz3, good_zz3⟩, ⟨fn_zz6, good_zz6⟩, ⟨fn_zz2, good_zz2⟩, ⟨fn_zz5, good_zz5⟩, trivial⟩), (run_zz8 big x).trans h⟩

/-! zz9 -/
def zz9_s (x_0 a_1 b_2 : Int) : Z1 :=
  cond (decide (a_1 ≤ x_0))
  (some (decide (x_0 ≤ b_2), (())))
  (some (false, (())))
def zz9 (x_0 a_1 b_2 : Int) : Z1 := zz9_s x_0 a_1 b_2
def S_zz9 : Sig := { a := (.pair I (.pair I (.pair I .unit))), md := [0, 0, 0], mf := [], m := .unit, r := .bool, rf := .i, f := fun x => zz9 x.1 x.2.1 x.2.2.1 }
def A_zz9 : Cfg := mkCfg tab [] []
theorem run_zz9 (N : Nat) (x : (S_zz9).a.den) : runF (A_zz9) N Try.f107 S_zz9 x = zz9 x.1 x.2.1 x.2.2.1 := by kernel_rfl
theorem fn_zz9 : FnOk Try.prog 107 := ⟨_, Try.func107, by kernel_rfl, by kernel_rfl⟩
theorem good_zz9 : Gx.Good Try.prog 107 S_zz9 := good_of_run Try.func107 (of_decide_eq_true (by kernel_rfl)) fun x r h => ⟨A_zz9, big, mkCfg_ok tabOk, mkCfg_sigs (show SigsOk Try.prog [] from trivial), (run_zz9 big x).trans h⟩

/-! zz10 -/
def zz10_b3 (rec : Y4 → Int → Int → Z4) (k : Z4) (w0 : Y4) (open5 i6 : Int) : Z4 :=
  cond (decide (i6 < (w0.length : Int)))
  ((atI w0 i6).bind fun xq1 =>
  cond (decide (xq1 = (-1 : Int)))
  (cond (decide ((IntKind.i64.wrap (open5 + (1 : Int))) = (0 : Int)))
  (some (IntKind.i64.wrap (i6 + (1 : Int)), (())))
  (rec w0 (IntKind.i64.wrap (open5 + (1 : Int))) (IntKind.i64.wrap (i6 + (1 : Int)))))
  ((atI w0 i6).bind fun xq2 =>
  cond (decide (xq2 = (-2 : Int)))
  (cond (decide ((IntKind.i64.wrap (open5 + (1 : Int))) = (0 : Int)))
  (some (IntKind.i64.wrap (i6 + (1 : Int)), (())))
  (rec w0 (IntKind.i64.wrap (open5 + (1 : Int))) (IntKind.i64.wrap (i6 + (1 : Int)))))
  ((atI w0 i6).bind fun xq3 =>
  (zz9 xq3 (0 : Int) (4 : Int)).bind fun rq4 =>
  cond rq4.1
  (cond (decide ((IntKind.i64.wrap (open5 - (1 : Int))) = (0 : Int)))
  (some (IntKind.i64.wrap (i6 + (1 : Int)), (())))
  (rec w0 (IntKind.i64.wrap (open5 - (1 : Int))) (IntKind.i64.wrap (i6 + (1 : Int)))))
  (some ((-1 : Int), (()))))))
  (k)
def zz10_a3 : Z4 :=
  some ((-1 : Int), (()))
def zz10_s (L3 : Y4 → Int → Int → Z4) (w_0 : Y4) (from_1 : Int) : Z4 :=
  L3 w_0 (1 : Int) from_1
def zz10_l3 (N : Nat) (k : Z4) : Nat → Y4 → Int → Int → Z4
  | 0, _, _, _ => none
  | m + 1, w0, open5, i6 => zz10_b3 (zz10_l3 N k m) k w0 open5 i6
def zz10_F3 (N : Nat) (w0 : Y4) (open5 i6 : Int) : Z4 := zz10_l3 N (zz10_a3) N w0 open5 i6
def zz10 (N : Nat) (w_0 : Y4) (from_1 : Int) : Z4 := zz10_s (zz10_F3 N) w_0 from_1
def S_zz10 : Sig := { a := (.pair (.sl I) (.pair I .unit)), md := [0, 0], mf := [], m := .unit, r := I, rf := .i, f := fun x => zz10 big x.1 x.2.1 }
def A_zz10 : Cfg := mkCfg tab [(107, S_zz9)] [(6, [.as (.sl I) .i, .drop, .drop, .drop, .drop, .as I .i, .as I .i]), (25, [])]
noncomputable def zz10_R3 (N n : Nat) (K : Ex → St → Z4) (w0 : Y4) (open5 i6 : Int) : Z4 := iter ((A_zz10).shape 6) (run (A_zz10) N (codeAt Try.f103 [1, 1, 0, 1, 0, 0])) n ([.val (.sl I) .i w0, .u, .u, .u, .u, .val I .i open5, .val I .i i6] ++ List.replicate 34 .u) K
noncomputable abbrev zz10_z : Ex → St → Z4 := finish (A_zz10) S_zz10 Try.f103.results.toList
noncomputable abbrev zz10_X3 (kX : St → Z4) : Z4 := kX ([] ++ List.replicate 41 .u)
noncomputable abbrev zz10_E3 (kX : St → Z4) (kO : Nat → St → Z4) : Ex → St → Z4 := exK zz10_z 0 ((A_zz10).shape 25) kX kO
theorem zz10_step3 (N m : Nat) (kX : St → Z4) (kO : Nat → St → Z4) (w0 : Y4) (open5 i6 : Int) : zz10_R3 N (m + 1) (zz10_E3 kX kO) w0 open5 i6 = zz10_b3 (zz10_R3 N m (zz10_E3 kX kO)) (zz10_X3 kX) w0 open5 i6 := by kernel_rfl
theorem zz10_iter3 (N : Nat) (kX : St → Z4) (kO : Nat → St → Z4) : ∀ (n : Nat) (w0 : Y4) (open5 i6 : Int), zz10_R3 N n (zz10_E3 kX kO) w0 open5 i6 = zz10_l3 N (zz10_X3 kX) n w0 open5 i6
  | 0, _, _, _ => rfl
  | m + 1, w0, open5, i6 => by
    have hrec : zz10_R3 N m (zz10_E3 kX kO) = (zz10_l3 N (zz10_X3 kX) m) := (funext fun w0 => (funext fun open5 => (funext fun i6 => zz10_iter3 N kX kO m w0 open5 i6)))
    refine (zz10_step3 N m kX kO w0 open5 i6).trans ?_
    rw [hrec]
    rfl
noncomputable abbrev zz10_K3 (N : Nat) : Ex → St → Z4 := (blockK 0 (seqK ((A_zz10).shape 25) (gated ((A_zz10).shape 500012).isSome N (run (A_zz10) N (codeAt Try.f103 [1, 1, 1]))) zz10_z))
noncomputable abbrev zz10_k3 (N : Nat) : St → Z4 := fun st' => run (A_zz10) N (codeAt Try.f103 [1, 1, 1]) st' zz10_z
theorem zz10_after3 (N : Nat) : zz10_X3 (zz10_k3 N) = zz10_a3 := by kernel_rfl
theorem zz10_in3 (N : Nat) (w0 : Y4) (open5 i6 : Int) : zz10_R3 N N (zz10_K3 N) w0 open5 i6 = zz10_F3 N w0 open5 i6 :=
  have h : zz10_X3 (zz10_k3 N) = (zz10_a3) := zz10_after3 N
  ((iter_ex (fun st => by kernel_rfl) (fun st => by kernel_rfl)).trans (zz10_iter3 N (zz10_k3 N) (fun j st => (zz10_K3 N) (.exit j) st) N w0 open5 i6)).trans (congrArg (fun k => zz10_l3 N k N w0 open5 i6) h)
theorem run0_zz10 (N : Nat) (x : (S_zz10).a.den) : runF (A_zz10) N Try.f103 S_zz10 x = (zz10_s (zz10_R3 N N (zz10_K3 N)) x.1 x.2.1) := by kernel_rfl
theorem run_zz10 (N : Nat) (x : (S_zz10).a.den) : runF (A_zz10) N Try.f103 S_zz10 x = zz10 N x.1 x.2.1 := by
  refine (run0_zz10 N x).trans ?_
  rw [(funext fun w0 => (funext fun open5 => (funext fun i6 => zz10_in3 N w0 open5 i6)))]
  rfl
theorem fn_zz10 : FnOk Try.prog 103 := ⟨_, Try.func103, by kernel_rfl, by kernel_rfl⟩
theorem good_zz10 : Gx.Good Try.prog 103 S_zz10 := good_of_run Try.func103 (of_decide_eq_true (by kernel_rfl)) fun x r h => ⟨A_zz10, big, mkCfg_ok tabOk, mkCfg_sigs (show SigsOk Try.prog [(107, S_zz9)] from ⟨⟨fn_zz9, good_zz9⟩, trivial⟩), (run_zz10 big x).trans h⟩

/-! zz11 -/
def zz11_s (w_0 : Y4) : Z1 :=
  cond (decide ((w_0.length : Int) ≤ (40 : Int)))
  ((zz10 big w_0 (0 : Int)).bind fun rq1 =>
  cond (decide (rq1.1 = (w_0.length : Int)))
  (some (decide ((0 : Int) < (w_0.length : Int)), (())))
  (some (false, (()))))
  (some (false, (())))
def zz11 (w_0 : Y4) : Z1 := zz11_s w_0
def S_zz11 : Sig := { a := (.pair (.sl I) .unit), md := [0], mf := [], m := .unit, r := .bool, rf := .i, f := fun x => zz11 x.1 }
def A_zz11 : Cfg := mkCfg tab [(103, S_zz10)] []
theorem run_zz11 (N : Nat) (x : (S_zz11).a.den) : runF (A_zz11) N Try.f54 S_zz11 x = zz11 x.1 := by kernel_rfl
theorem fn_zz11 : FnOk Try.prog 54 := ⟨_, Try.func54, by kernel_rfl, by kernel_rfl⟩
theorem good_zz11 : Gx.Good Try.prog 54 S_zz11 := good_of_run Try.func54 (of_decide_eq_true (by kernel_rfl)) fun x r h => ⟨A_zz11, big, mkCfg_ok tabOk, mkCfg_sigs (show SigsOk Try.prog [(103, S_zz10)] from ⟨⟨fn_zz10, good_zz10⟩, trivial⟩), (run_zz11 big x).trans h⟩

/-! zz12 -/
def zz12_s (s_0 t_1 : Y4) : Z1 :=
  (zz11 s_0).bind fun rq1 =>
  cond rq1.1
  ((zz11 t_1).bind fun rq2 =>
  some (rq2.1, (())))
  (some (false, (())))
def zz12 (s_0 t_1 : Y4) : Z1 := zz12_s s_0 t_1
def S_zz12 : Sig := { a := (.pair (.sl I) (.pair (.sl I) .unit)), md := [0, 0], mf := [], m := .unit, r := .bool, rf := .i, f := fun x => zz12 x.1 x.2.1 }
def A_zz12 : Cfg := mkCfg tab [(54, S_zz11)] []
theorem run_zz12 (N : Nat) (x : (S_zz12).a.den) : runF (A_zz12) N Try.f38 S_zz12 x = zz12 x.1 x.2.1 := by kernel_rfl
theorem fn_zz12 : FnOk Try.prog 38 := ⟨_, Try.func38, by kernel_rfl, by kernel_rfl⟩
theorem good_zz12 : Gx.Good Try.prog 38 S_zz12 := good_of_run Try.func38 (of_decide_eq_true (by kernel_rfl)) fun x r h => ⟨A_zz12, big, mkCfg_ok tabOk, mkCfg_sigs (show SigsOk Try.prog [(54, S_zz11)] from ⟨⟨fn_zz11, good_zz11⟩, trivial⟩), (run_zz12 big x).trans h⟩

/-! zz13 -/
def zz13_s (code_0 : Y4) : Option ((Y4 × Z11) × Unit) :=
  (zz8 big (code_0, ((0 : Int), ((0 : Int), ())))).bind fun rq1 =>
  (zz8 big rq1.2.1).bind fun rq2 =>
  (zz12 rq1.1 rq2.1).bind fun rq3 =>
  cond rq3.1
  ((zz2 rq2.2.1 (4 : Int)).bind fun rq4 =>
  cond (decide (rq4.1 = (0 : Int)))
  ((zz5 (-1 : Int) rq1.1 rq2.1).bind fun rq5 =>
  some ((rq5.1, rq2.1, ()), (())))
  (cond (decide (rq4.1 = (1 : Int)))
  ((zz5 (-2 : Int) rq2.1 rq1.1).bind fun rq6 =>
  some ((rq1.1, rq6.1, ()), (())))
  (some ((rq1.1, rq2.1, ()), (())))))
  (some ((rq1.1, rq2.1, ()), (())))
def zz13 (code_0 : Y4) : Option ((Y4 × Z11) × Unit) := zz13_s code_0
def S_zz13 : Sig := { a := (.pair (.sl (.int .u8)) .unit), md := [0], mf := [], m := .unit, r := (.tup (.pair (.sl I) (.pair (.sl I) .unit))), rf := .i, f := fun x => zz13 x.1 }
def A_zz13 : Cfg := mkCfg tab [(37, S_zz8), (38, S_zz12), (39, S_zz2), (40, S_zz5)] []
theorem run_zz13 (N : Nat) (x : (S_zz13).a.den) : runF (A_zz13) N Try.f6 S_zz13 x = zz13 x.1 := by kernel_rfl
theorem fn_zz13 : FnOk Try.prog 6 := ⟨_, Try.func6, by kernel_rfl, by kernel_rfl⟩
theorem good_zz13 : Gx.Good Try.prog 6 S_zz13 := good_of_run Try.func6 (of_decide_eq_true (by kernel_rfl)) fun x r h => ⟨A_zz13, big, mkCfg_ok tabOk, mkCfg_sigs (show SigsOk Try.prog [(37, S_zz8), (38, S_zz12), (39, S_zz2), (40, S_zz5)] from ⟨⟨fn_zz8, good_zz8⟩, ⟨fn_zz12, good_zz12⟩, ⟨fn_zz2, good_zz2⟩, ⟨fn_zz5, good_zz5⟩, trivial⟩), (run_zz13 big x).trans h⟩

/-! zz14 -/
def zz14_b2 (rec : Y4 → Int → Int → Z4) (k : Int → Z4) (w0 : Y4) (at1 need5 : Int) : Z4 :=
  cond (decide ((0 : Int) < need5))
  (cond (decide ((w0.length : Int) ≤ at1))
  (some ((-1 : Int), (())))
  ((atI w0 at1).bind fun xq1 =>
  cond (decide (xq1 < (-2 : Int)))
  (some ((-1 : Int), (())))
  ((atI w0 at1).bind fun xq2 =>
  cond (decide ((5 : Int) ≤ xq2))
  (some ((-1 : Int), (())))
  ((atI w0 at1).bind fun xq3 =>
  cond (decide ((0 : Int) ≤ xq3))
  (rec w0 (IntKind.i64.wrap (at1 + (1 : Int))) (IntKind.i64.wrap (need5 - (1 : Int))))
  (rec w0 (IntKind.i64.wrap (at1 + (1 : Int))) (IntKind.i64.wrap (need5 + (1 : Int))))))))
  (k at1)
def zz14_a2 (at1 : Int) : Z4 :=
  some (at1, (()))
def zz14_s (L2 : Y4 → Int → Int → Z4) (w_0 : Y4) (at_1 : Int) : Z4 :=
  L2 w_0 at_1 (1 : Int)
def zz14_l2 (N : Nat) (k : Int → Z4) : Nat → Y4 → Int → Int → Z4
  | 0, _, _, _ => none
  | m + 1, w0, at1, need5 => zz14_b2 (zz14_l2 N k m) k w0 at1 need5
def zz14_F2 (N : Nat) (w0 : Y4) (at1 need5 : Int) : Z4 := zz14_l2 N (zz14_a2) N w0 at1 need5
def zz14 (N : Nat) (w_0 : Y4) (at_1 : Int) : Z4 := zz14_s (zz14_F2 N) w_0 at_1
def S_zz14 : Sig := { a := (.pair (.sl I) (.pair I .unit)), md := [0, 0], mf := [], m := .unit, r := I, rf := .i, f := fun x => zz14 big x.1 x.2.1 }
def A_zz14 : Cfg := mkCfg tab [] [(4, [.as (.sl I) .i, .as I .i, .drop, .drop, .drop, .as I .i]), (19, [.drop, .as I .i])]
noncomputable def zz14_R2 (N n : Nat) (K : Ex → St → Z4) (w0 : Y4) (at1 need5 : Int) : Z4 := iter ((A_zz14).shape 4) (run (A_zz14) N (codeAt Try.f44 [1, 0, 1, 0, 0])) n ([.val (.sl I) .i w0, .val I .i at1, .u, .u, .u, .val I .i need5] ++ List.replicate 32 .u) K
noncomputable abbrev zz14_z : Ex → St → Z4 := finish (A_zz14) S_zz14 Try.f44.results.toList
noncomputable abbrev zz14_X2 (kX : St → Z4) : Int → Z4 := fun (at1 : Int) => kX ([.u, .val I .i at1] ++ List.replicate 36 .u)
noncomputable abbrev zz14_E2 (kX : St → Z4) (kO : Nat → St → Z4) : Ex → St → Z4 := exK zz14_z 0 ((A_zz14).shape 19) kX kO
theorem zz14_step2 (N m : Nat) (kX : St → Z4) (kO : Nat → St → Z4) (w0 : Y4) (at1 need5 : Int) : zz14_R2 N (m + 1) (zz14_E2 kX kO) w0 at1 need5 = zz14_b2 (zz14_R2 N m (zz14_E2 kX kO)) (zz14_X2 kX) w0 at1 need5 := by kernel_rfl
theorem zz14_iter2 (N : Nat) (kX : St → Z4) (kO : Nat → St → Z4) : ∀ (n : Nat) (w0 : Y4) (at1 need5 : Int), zz14_R2 N n (zz14_E2 kX kO) w0 at1 need5 = zz14_l2 N (zz14_X2 kX) n w0 at1 need5
  | 0, _, _, _ => rfl
  | m + 1, w0, at1, need5 => by
    have hrec : zz14_R2 N m (zz14_E2 kX kO) = (zz14_l2 N (zz14_X2 kX) m) := (funext fun w0 => (funext fun at1 => (funext fun need5 => zz14_iter2 N kX kO m w0 at1 need5)))
    refine (zz14_step2 N m kX kO w0 at1 need5).trans ?_
    rw [hrec]
    rfl
noncomputable abbrev zz14_K2 (N : Nat) : Ex → St → Z4 := (blockK 0 (seqK ((A_zz14).shape 19) (gated ((A_zz14).shape 500009).isSome N (run (A_zz14) N (codeAt Try.f44 [1, 1]))) zz14_z))
noncomputable abbrev zz14_k2 (N : Nat) : St → Z4 := fun st' => run (A_zz14) N (codeAt Try.f44 [1, 1]) st' zz14_z
theorem zz14_after2 (N : Nat) (at1 : Int) : zz14_X2 (zz14_k2 N) at1 = zz14_a2 at1 := by kernel_rfl
theorem zz14_in2 (N : Nat) (w0 : Y4) (at1 need5 : Int) : zz14_R2 N N (zz14_K2 N) w0 at1 need5 = zz14_F2 N w0 at1 need5 :=
  have h : zz14_X2 (zz14_k2 N) = (zz14_a2) := (funext fun at1 => zz14_after2 N at1)
  ((iter_ex (fun st => by kernel_rfl) (fun st => by kernel_rfl)).trans (zz14_iter2 N (zz14_k2 N) (fun j st => (zz14_K2 N) (.exit j) st) N w0 at1 need5)).trans (congrArg (fun k => zz14_l2 N k N w0 at1 need5) h)
theorem run0_zz14 (N : Nat) (x : (S_zz14).a.den) : runF (A_zz14) N Try.f44 S_zz14 x = (zz14_s (zz14_R2 N N (zz14_K2 N)) x.1 x.2.1) := by kernel_rfl
theorem run_zz14 (N : Nat) (x : (S_zz14).a.den) : runF (A_zz14) N Try.f44 S_zz14 x = zz14 N x.1 x.2.1 := by
  refine (run0_zz14 N x).trans ?_
  rw [(funext fun w0 => (funext fun at1 => (funext fun need5 => zz14_in2 N w0 at1 need5)))]
  rfl
theorem fn_zz14 : FnOk Try.prog 44 := ⟨_, Try.func44, by kernel_rfl, by kernel_rfl⟩
theorem good_zz14 : Gx.Good Try.prog 44 S_zz14 := good_of_run Try.func44 (of_decide_eq_true (by kernel_rfl)) fun x r h => ⟨A_zz14, big, mkCfg_ok tabOk, mkCfg_sigs (show SigsOk Try.prog [] from trivial), (run_zz14 big x).trans h⟩

/-! zz15 -/
def zz15_s (w_0 : Y4) : Z1 :=
  cond (decide ((w_0.length : Int) ≤ (40 : Int)))
  ((zz14 big w_0 (0 : Int)).bind fun rq1 =>
  some (decide (rq1.1 = (w_0.length : Int)), (())))
  (some (false, (())))
def zz15 (w_0 : Y4) : Z1 := zz15_s w_0
def S_zz15 : Sig := { a := (.pair (.sl I) .unit), md := [0], mf := [], m := .unit, r := .bool, rf := .i, f := fun x => zz15 x.1 }
def A_zz15 : Cfg := mkCfg tab [(44, S_zz14)] []
theorem run_zz15 (N : Nat) (x : (S_zz15).a.den) : runF (A_zz15) N Try.f9 S_zz15 x = zz15 x.1 := by kernel_rfl
theorem fn_zz15 : FnOk Try.prog 9 := ⟨_, Try.func9, by kernel_rfl, by kernel_rfl⟩
theorem good_zz15 : Gx.Good Try.prog 9 S_zz15 := good_of_run Try.func9 (of_decide_eq_true (by kernel_rfl)) fun x r h => ⟨A_zz15, big, mkCfg_ok tabOk, mkCfg_sigs (show SigsOk Try.prog [(44, S_zz14)] from ⟨⟨fn_zz14, good_zz14⟩, trivial⟩), (run_zz15 big x).trans h⟩

/-! zz16 -/
def zz16_s (s_0 t_1 : Y4) : Z1 :=
  (zz15 s_0).bind fun rq1 =>
  cond rq1.1
  ((zz15 t_1).bind fun rq2 =>
  some (rq2.1, (())))
  (some (false, (())))
def zz16 (s_0 t_1 : Y4) : Z1 := zz16_s s_0 t_1
def S_zz16 : Sig := { a := (.pair (.sl I) (.pair (.sl I) .unit)), md := [0, 0], mf := [], m := .unit, r := .bool, rf := .i, f := fun x => zz16 x.1 x.2.1 }
def A_zz16 : Cfg := mkCfg tab [(9, S_zz15)] []
theorem run_zz16 (N : Nat) (x : (S_zz16).a.den) : runF (A_zz16) N Try.f41 S_zz16 x = zz16 x.1 x.2.1 := by kernel_rfl
theorem fn_zz16 : FnOk Try.prog 41 := ⟨_, Try.func41, by kernel_rfl, by kernel_rfl⟩
theorem good_zz16 : Gx.Good Try.prog 41 S_zz16 := good_of_run Try.func41 (of_decide_eq_true (by kernel_rfl)) fun x r h => ⟨A_zz16, big, mkCfg_ok tabOk, mkCfg_sigs (show SigsOk Try.prog [(9, S_zz15)] from ⟨⟨fn_zz15, good_zz15⟩, trivial⟩), (run_zz16 big x).trans h⟩

/-! types of zz17+zz18 -/
def T_zz17 (self : (Z7 × Z0) → Z15) : Sig := { a := (.pair (.ptr (.pair (.sl I) (.pair (.sl I) (.pair (.map (.pair I (.pair I .unit)) .bool) .unit)))) (.pair I (.pair I .unit))), md := [1, 0, 0], mf := [(.o (.p .i (.p .i (.p (.o .i) .i))))], m := (.pair (.ptr (.pair (.sl I) (.pair (.sl I) (.pair (.map (.pair I (.pair I .unit)) .bool) .unit)))) .unit), r := .bool, rf := .i, f := self }
def T_zz18 (self : (Z7 × Z0) → Z15) : Sig := { a := (.pair (.ptr (.pair (.sl I) (.pair (.sl I) (.pair (.map (.pair I (.pair I .unit)) .bool) .unit)))) (.pair I (.pair I .unit))), md := [1, 0, 0], mf := [(.o (.p .i (.p .i (.p (.o .i) .i))))], m := (.pair (.ptr (.pair (.sl I) (.pair (.sl I) (.pair (.map (.pair I (.pair I .unit)) .bool) .unit)))) .unit), r := .bool, rf := .i, f := self }

/-! zz17 -/
def zz17_s (self_zz17 self_zz18 : (Z7 × Z0) → Z15) (c_0 : Z7) (i_1 k_2 : Int) : Z15 :=
  cond (!(((Option.getD (mget (.pair I (.pair I .unit)) .bool c_0.2.2.1 (i_1, (k_2, ()))) false, (Option.isSome (mget (.pair I (.pair I .unit)) .bool c_0.2.2.1 (i_1, (k_2, ()))), ())).2).1))
  ((self_zz18 (c_0, i_1, k_2, ())).bind fun rq1 =>
  some (rq1.1, ((rq1.2.1.1, (rq1.2.1.2.1, (mput (.pair I (.pair I .unit)) .bool rq1.2.1.2.2.1 (i_1, (k_2, ())) rq1.1, rq1.2.1.2.2.2))), ())))
  (some ((Option.getD (mget (.pair I (.pair I .unit)) .bool c_0.2.2.1 (i_1, (k_2, ()))) false, (Option.isSome (mget (.pair I (.pair I .unit)) .bool c_0.2.2.1 (i_1, (k_2, ()))), ())).1, (c_0, ())))
def zz17 (self_zz17 self_zz18 : (Z7 × Z0) → Z15) (c_0 : Z7) (i_1 k_2 : Int) : Z15 := zz17_s self_zz17 self_zz18 c_0 i_1 k_2
def A_zz17 (self_zz17 self_zz18 : (Z7 × Z0) → Z15) : Cfg := mkCfg tab [(118, T_zz18 self_zz18)] []
theorem run_zz17 (self_zz17 self_zz18 : (Z7 × Z0) → Z15) (N : Nat) (x : ((T_zz17 self_zz17)).a.den) : runF (A_zz17 self_zz17 self_zz18) N Try.f89 (T_zz17 self_zz17) x = zz17 self_zz17 self_zz18 x.1 x.2.1 x.2.2.1 := by kernel_rfl
theorem fn_zz17 : FnOk Try.prog 89 := ⟨_, Try.func89, by kernel_rfl, by kernel_rfl⟩

/-! zz18 -/
def zz18_s (self_zz17 self_zz18 : (Z7 × Z0) → Z15) (c_0 : Z7) (i_1 k_2 : Int) : Z15 :=
  (atI c_0.1 i_1).bind fun xq1 =>
  (atI c_0.2.1 k_2).bind fun xq2 =>
  cond (decide (xq1 = (-2 : Int)))
  ((self_zz17 (c_0, IntKind.i64.wrap (i_1 + (1 : Int)), k_2, ())).bind fun rq3 =>
  cond rq3.1
  ((zz14 big rq3.2.1.1 (IntKind.i64.wrap (i_1 + (1 : Int)))).bind fun rq4 =>
  (self_zz17 (rq3.2.1, rq4.1, k_2, ())).bind fun rq5 =>
  some (rq5.1, (rq5.2.1, ())))
  (some (false, (rq3.2.1, ()))))
  (cond (decide (xq2 = (-1 : Int)))
  ((self_zz17 (c_0, i_1, IntKind.i64.wrap (k_2 + (1 : Int)), ())).bind fun rq6 =>
  cond rq6.1
  ((zz14 big rq6.2.1.2.1 (IntKind.i64.wrap (k_2 + (1 : Int)))).bind fun rq7 =>
  (self_zz17 (rq6.2.1, i_1, rq7.1, ())).bind fun rq8 =>
  some (rq8.1, (rq8.2.1, ())))
  (some (false, (rq6.2.1, ()))))
  (cond (decide ((0 : Int) ≤ xq1))
  (cond (decide ((0 : Int) ≤ xq2))
  (some (decide (xq1 = xq2), (c_0, ())))
  (cond (decide (xq1 = (-1 : Int)))
  ((self_zz17 (c_0, IntKind.i64.wrap (i_1 + (1 : Int)), k_2, ())).bind fun rq9 =>
  cond rq9.1
  (some (true, (rq9.2.1, ())))
  ((zz14 big rq9.2.1.1 (IntKind.i64.wrap (i_1 + (1 : Int)))).bind fun rq10 =>
  (self_zz17 (rq9.2.1, rq10.1, k_2, ())).bind fun rq11 =>
  cond rq11.1
  (some (true, (rq11.2.1, ())))
  (cond (decide (xq2 = (-2 : Int)))
  ((self_zz17 (rq11.2.1, i_1, IntKind.i64.wrap (k_2 + (1 : Int)), ())).bind fun rq12 =>
  cond rq12.1
  (some (true, (rq12.2.1, ())))
  ((zz14 big rq12.2.1.2.1 (IntKind.i64.wrap (k_2 + (1 : Int)))).bind fun rq13 =>
  (self_zz17 (rq12.2.1, i_1, rq13.1, ())).bind fun rq14 =>
  some (rq14.1, (rq14.2.1, ()))))
  (some (false, (rq11.2.1, ()))))))
  (cond (decide (xq2 = (-2 : Int)))
  ((self_zz17 (c_0, i_1, IntKind.i64.wrap (k_2 + (1 : Int)), ())).bind fun rq15 =>
  cond rq15.1
  (some (true, (rq15.2.1, ())))
  ((zz14 big rq15.2.1.2.1 (IntKind.i64.wrap (k_2 + (1 : Int)))).bind fun rq16 =>
  (self_zz17 (rq15.2.1, i_1, rq16.1, ())).bind fun rq17 =>
  some (rq17.1, (rq17.2.1, ()))))
  (some (false, (c_0, ()))))))
  (cond (decide (xq1 = (-1 : Int)))
  ((self_zz17 (c_0, IntKind.i64.wrap (i_1 + (1 : Int)), k_2, ())).bind fun rq18 =>
  cond rq18.1
  (some (true, (rq18.2.1, ())))
  ((zz14 big rq18.2.1.1 (IntKind.i64.wrap (i_1 + (1 : Int)))).bind fun rq19 =>
  (self_zz17 (rq18.2.1, rq19.1, k_2, ())).bind fun rq20 =>
  cond rq20.1
  (some (true, (rq20.2.1, ())))
  (cond (decide (xq2 = (-2 : Int)))
  ((self_zz17 (rq20.2.1, i_1, IntKind.i64.wrap (k_2 + (1 : Int)), ())).bind fun rq21 =>
  cond rq21.1
  (some (true, (rq21.2.1, ())))
  ((zz14 big rq21.2.1.2.1 (IntKind.i64.wrap (k_2 + (1 : Int)))).bind fun rq22 =>
  (self_zz17 (rq21.2.1, i_1, rq22.1, ())).bind fun rq23 =>
  some (rq23.1, (rq23.2.1, ()))))
  (some (false, (rq20.2.1, ()))))))
  (cond (decide (xq2 = (-2 : Int)))
  ((self_zz17 (c_0, i_1, IntKind.i64.wrap (k_2 + (1 : Int)), ())).bind fun rq24 =>
  cond rq24.1
  (some (true, (rq24.2.1, ())))
  ((zz14 big rq24.2.1.2.1 (IntKind.i64.wrap (k_2 + (1 : Int)))).bind fun rq25 =>
  (self_zz17 (rq24.2.1, i_1, rq25.1, ())).bind fun rq26 =>
  some (rq26.1, (rq26.2.1, ()))))
  (some (false, (c_0, ())))))))
def zz18 (self_zz17 self_zz18 : (Z7 × Z0) → Z15) (c_0 : Z7) (i_1 k_2 : Int) : Z15 := zz18_s self_zz17 self_zz18 c_0 i_1 k_2
def A_zz18 (self_zz17 self_zz18 : (Z7 × Z0) → Z15) : Cfg := mkCfg tab [(89, T_zz17 self_zz17), (44, S_zz14)] []
theorem run_zz18 (self_zz17 self_zz18 : (Z7 × Z0) → Z15) (N : Nat) (x : ((T_zz18 self_zz18)).a.den) : runF (A_zz18 self_zz17 self_zz18) N Try.f118 (T_zz18 self_zz18) x = zz18 self_zz17 self_zz18 x.1 x.2.1 x.2.2.1 := by kernel_rfl
theorem fn_zz18 : FnOk Try.prog 118 := ⟨_, Try.func118, by kernel_rfl, by kernel_rfl⟩

/-! zz78 -/
def RR_impl_comparer_below_impl_comparer_decide : Nat → ((Z7 × Z0) → Z15) × ((Z7 × Z0) → Z15)
  | 0 => (fun _ => none, fun _ => none)
  | d + 1 => (fun x => zz17 (RR_impl_comparer_below_impl_comparer_decide d).1 (RR_impl_comparer_below_impl_comparer_decide d).2 x.1 x.2.1 x.2.2.1, fun x => zz18 (RR_impl_comparer_below_impl_comparer_decide d).1 (RR_impl_comparer_below_impl_comparer_decide d).2 x.1 x.2.1 x.2.2.1)
def R_zz17 (d : Nat) : (Z7 × Z0) → Z15 := (RR_impl_comparer_below_impl_comparer_decide d).1
def S_zz17 : Sig := T_zz17 (R_zz17 big)
def R_zz18 (d : Nat) : (Z7 × Z0) → Z15 := (RR_impl_comparer_below_impl_comparer_decide d).2
def S_zz18 : Sig := T_zz18 (R_zz18 big)
theorem goodRR_impl_comparer_below_impl_comparer_decide : ∀ d, Gx.Good Try.prog 89 (T_zz17 (R_zz17 d)) ∧ Gx.Good Try.prog 118 (T_zz18 (R_zz18 d))
  | 0 => ⟨(fun x r h => by cases (show (none : Option _) = some r from h)), (fun x r h => by cases (show (none : Option _) = some r from h))⟩
  | d + 1 => ⟨(good_of_run Try.func89 (of_decide_eq_true (by kernel_rfl)) fun x r h => ⟨A_zz17 (R_zz17 d) (R_zz18 d), big, mkCfg_ok tabOk, mkCfg_sigs (show SigsOk Try.prog [(118, T_zz18 (R_zz18 d))] from ⟨⟨fn_zz18, (goodRR_impl_comparer_below_impl_comparer_decide d).2⟩, trivial⟩), (run_zz17 (R_zz17 d) (R_zz18 d) big x).trans h⟩), (good_of_run Try.func118 (of_decide_eq_true (by kernel_rfl)) fun x r h => ⟨A_zz18 (R_zz17 d) (R_zz18 d), big, mkCfg_ok tabOk, mkCfg_sigs (show SigsOk Try.prog [(89, T_zz17 (R_zz17 d)), (44, S_zz14)] from ⟨⟨fn_zz17, (goodRR_impl_comparer_below_impl_comparer_decide d).1⟩, ⟨fn_zz14, good_zz14⟩, trivial⟩), (run_zz18 (R_zz17 d) (R_zz18 d) big x).trans h⟩)⟩
theorem good_zz17 : Gx.Good Try.prog 89 S_zz17 := (goodRR_impl_comparer_below_impl_comparer_decide big).1
theorem good_zz18 : Gx.Good Try.prog 118 S_zz18 := (goodRR_impl_comparer_below_impl_comparer_decide big).2

/-! zz20 -/
def zz20_s (s_0 t_1 : Y4) : Z1 :=
  (R_zz17 big ((s_0, (t_1, ([], ()))), (0 : Int), (0 : Int), ())).bind fun rq1 =>
  some (rq1.1, (()))
def zz20 (s_0 t_1 : Y4) : Z1 := zz20_s s_0 t_1
def S_zz20 : Sig := { a := (.pair (.sl I) (.pair (.sl I) .unit)), md := [0, 0], mf := [], m := .unit, r := .bool, rf := .i, f := fun x => zz20 x.1 x.2.1 }
def A_zz20 : Cfg := mkCfg tab [(89, S_zz17)] []
theorem run_zz20 (N : Nat) (x : (S_zz20).a.den) : runF (A_zz20) N Try.f42 S_zz20 x = zz20 x.1 x.2.1 := by kernel_rfl
theorem fn_zz20 : FnOk Try.prog 42 := ⟨_, Try.func42, by kernel_rfl, by kernel_rfl⟩
theorem good_zz20 : Gx.Good Try.prog 42 S_zz20 := good_of_run Try.func42 (of_decide_eq_true (by kernel_rfl)) fun x r h => ⟨A_zz20, big, mkCfg_ok tabOk, mkCfg_sigs (show SigsOk Try.prog [(89, S_zz17)] from ⟨⟨fn_zz17, good_zz17⟩, trivial⟩), (run_zz20 big x).trans h⟩

/-! zz21 -/
def zz21_s (s_0 t_1 : Y4) : Option ((Bool × (Bool × Unit)) × Unit) :=
  (zz16 s_0 t_1).bind fun rq1 =>
  cond (!rq1.1)
  (some ((false, false, ()), (())))
  ((zz20 s_0 t_1).bind fun rq2 =>
  some ((rq2.1, true, ()), (())))
def zz21 (s_0 t_1 : Y4) : Option ((Bool × (Bool × Unit)) × Unit) := zz21_s s_0 t_1
def S_zz21 : Sig := { a := (.pair (.sl I) (.pair (.sl I) .unit)), md := [0, 0], mf := [], m := .unit, r := (.tup (.pair .bool (.pair .bool .unit))), rf := .i, f := fun x => zz21 x.1 x.2.1 }
def A_zz21 : Cfg := mkCfg tab [(41, S_zz16), (42, S_zz20)] []
theorem run_zz21 (N : Nat) (x : (S_zz21).a.den) : runF (A_zz21) N Try.f7 S_zz21 x = zz21 x.1 x.2.1 := by kernel_rfl
theorem fn_zz21 : FnOk Try.prog 7 := ⟨_, Try.func7, by kernel_rfl, by kernel_rfl⟩
theorem good_zz21 : Gx.Good Try.prog 7 S_zz21 := good_of_run Try.func7 (of_decide_eq_true (by kernel_rfl)) fun x r h => ⟨A_zz21, big, mkCfg_ok tabOk, mkCfg_sigs (show SigsOk Try.prog [(41, S_zz16), (42, S_zz20)] from ⟨⟨fn_zz16, good_zz16⟩, ⟨fn_zz20, good_zz20⟩, trivial⟩), (run_zz21 big x).trans h⟩

/-! types of zz22+zz23 -/
def T_zz22 (self : Z16 → Z17) : Sig := { a := (.pair (.sl I) (.pair (.sl I) (.pair I (.pair I (.pair (.sl I) .unit))))), md := [0, 0, 0, 0, 1], mf := [(.o .i)], m := (.pair (.sl I) .unit), r := .bool, rf := .i, f := self }
def T_zz23 (self : Z16 → Z17) : Sig := { a := (.pair (.sl I) (.pair (.sl I) (.pair I (.pair I (.pair (.sl I) .unit))))), md := [0, 0, 0, 0, 1], mf := [(.o .i)], m := (.pair (.sl I) .unit), r := .bool, rf := .i, f := self }

/-! zz22 -/
def zz22_s (self_zz22 self_zz23 : Z16 → Z17) (s_0 t_1 : Y4) (i_2 k_3 : Int) (known_4 : Y4) : Z17 :=
  (atI known_4 (IntKind.i64.wrap ((IntKind.i64.wrap (i_2 * (t_1.length : Int))) + k_3))).bind fun _ =>
  (known_4[(IntKind.i64.wrap ((IntKind.i64.wrap (i_2 * (t_1.length : Int))) + k_3)).toNat]?).bind fun xq1 =>
  cond (decide (xq1 = (0 : Int)))
  ((atI known_4 (IntKind.i64.wrap ((IntKind.i64.wrap (i_2 * (t_1.length : Int))) + k_3))).bind fun _ =>
  (known_4[(IntKind.i64.wrap ((IntKind.i64.wrap (i_2 * (t_1.length : Int))) + k_3)).toNat]?).bind fun xq2 =>
  (self_zz23 (s_0, t_1, i_2, k_3, known_4.set ((IntKind.i64.wrap ((IntKind.i64.wrap (i_2 * (t_1.length : Int))) + k_3)).toNat) (2 : Int), ())).bind fun rq3 =>
  cond rq3.1
  ((atI rq3.2.1 (IntKind.i64.wrap ((IntKind.i64.wrap (i_2 * (t_1.length : Int))) + k_3))).bind fun _ =>
  (rq3.2.1[(IntKind.i64.wrap ((IntKind.i64.wrap (i_2 * (t_1.length : Int))) + k_3)).toNat]?).bind fun xq4 =>
  (atI (rq3.2.1.set ((IntKind.i64.wrap ((IntKind.i64.wrap (i_2 * (t_1.length : Int))) + k_3)).toNat) (1 : Int)) (IntKind.i64.wrap ((IntKind.i64.wrap (i_2 * (t_1.length : Int))) + k_3))).bind fun _ =>
  ((rq3.2.1.set ((IntKind.i64.wrap ((IntKind.i64.wrap (i_2 * (t_1.length : Int))) + k_3)).toNat) (1 : Int))[(IntKind.i64.wrap ((IntKind.i64.wrap (i_2 * (t_1.length : Int))) + k_3)).toNat]?).bind fun xq5 =>
  some (decide (xq5 = (1 : Int)), (rq3.2.1.set ((IntKind.i64.wrap ((IntKind.i64.wrap (i_2 * (t_1.length : Int))) + k_3)).toNat) (1 : Int), ())))
  ((atI rq3.2.1 (IntKind.i64.wrap ((IntKind.i64.wrap (i_2 * (t_1.length : Int))) + k_3))).bind fun _ =>
  (rq3.2.1[(IntKind.i64.wrap ((IntKind.i64.wrap (i_2 * (t_1.length : Int))) + k_3)).toNat]?).bind fun xq6 =>
  some (decide (xq6 = (1 : Int)), (rq3.2.1, ()))))
  ((atI known_4 (IntKind.i64.wrap ((IntKind.i64.wrap (i_2 * (t_1.length : Int))) + k_3))).bind fun _ =>
  (known_4[(IntKind.i64.wrap ((IntKind.i64.wrap (i_2 * (t_1.length : Int))) + k_3)).toNat]?).bind fun xq7 =>
  some (decide (xq7 = (1 : Int)), (known_4, ())))
def zz22 (self_zz22 self_zz23 : Z16 → Z17) (s_0 t_1 : Y4) (i_2 k_3 : Int) (known_4 : Y4) : Z17 := zz22_s self_zz22 self_zz23 s_0 t_1 i_2 k_3 known_4
def A_zz22 (self_zz22 self_zz23 : Z16 → Z17) : Cfg := mkCfg tab [(119, T_zz23 self_zz23)] []
theorem run_zz22 (self_zz22 self_zz23 : Z16 → Z17) (N : Nat) (x : ((T_zz22 self_zz22)).a.den) : runF (A_zz22 self_zz22 self_zz23) N Try.f90 (T_zz22 self_zz22) x = zz22 self_zz22 self_zz23 x.1 x.2.1 x.2.2.1 x.2.2.2.1 x.2.2.2.2.1 := by kernel_rfl
theorem fn_zz22 : FnOk Try.prog 90 := ⟨_, Try.func90, by kernel_rfl, by kernel_rfl⟩

/-! zz23 -/
def zz23_s (self_zz22 self_zz23 : Z16 → Z17) (s_0 t_1 : Y4) (i_2 k_3 : Int) (known_4 : Y4) : Z17 :=
  (atI s_0 i_2).bind fun xq1 =>
  cond (decide (xq1 = (-2 : Int)))
  ((self_zz22 (s_0, t_1, IntKind.i64.wrap (i_2 + (1 : Int)), k_3, known_4, ())).bind fun rq2 =>
  cond rq2.1
  ((zz10 big s_0 (IntKind.i64.wrap (i_2 + (1 : Int)))).bind fun rq3 =>
  (self_zz22 (s_0, t_1, rq3.1, k_3, rq2.2.1, ())).bind fun rq4 =>
  some (rq4.1, (rq4.2.1, ())))
  (some (false, (rq2.2.1, ()))))
  ((atI t_1 k_3).bind fun xq5 =>
  cond (decide (xq5 = (-1 : Int)))
  ((self_zz22 (s_0, t_1, i_2, IntKind.i64.wrap (k_3 + (1 : Int)), known_4, ())).bind fun rq6 =>
  cond rq6.1
  ((zz10 big t_1 (IntKind.i64.wrap (k_3 + (1 : Int)))).bind fun rq7 =>
  (self_zz22 (s_0, t_1, i_2, rq7.1, rq6.2.1, ())).bind fun rq8 =>
  some (rq8.1, (rq8.2.1, ())))
  (some (false, (rq6.2.1, ()))))
  ((atI s_0 i_2).bind fun xq9 =>
  cond (decide ((0 : Int) ≤ xq9))
  ((atI t_1 k_3).bind fun xq10 =>
  cond (decide ((0 : Int) ≤ xq10))
  ((atI s_0 i_2).bind fun xq11 =>
  (atI t_1 k_3).bind fun xq12 =>
  some (decide (xq11 = xq12), (known_4, ())))
  ((atI s_0 i_2).bind fun xq13 =>
  cond (decide (xq13 = (-1 : Int)))
  ((self_zz22 (s_0, t_1, IntKind.i64.wrap (i_2 + (1 : Int)), k_3, known_4, ())).bind fun rq14 =>
  cond rq14.1
  (some (true, (rq14.2.1, ())))
  ((zz10 big s_0 (IntKind.i64.wrap (i_2 + (1 : Int)))).bind fun rq15 =>
  (self_zz22 (s_0, t_1, rq15.1, k_3, rq14.2.1, ())).bind fun rq16 =>
  cond rq16.1
  (some (true, (rq16.2.1, ())))
  ((atI t_1 k_3).bind fun xq17 =>
  cond (decide (xq17 = (-2 : Int)))
  ((self_zz22 (s_0, t_1, i_2, IntKind.i64.wrap (k_3 + (1 : Int)), rq16.2.1, ())).bind fun rq18 =>
  cond rq18.1
  (some (true, (rq18.2.1, ())))
  ((zz10 big t_1 (IntKind.i64.wrap (k_3 + (1 : Int)))).bind fun rq19 =>
  (self_zz22 (s_0, t_1, i_2, rq19.1, rq18.2.1, ())).bind fun rq20 =>
  some (rq20.1, (rq20.2.1, ()))))
  (some (false, (rq16.2.1, ()))))))
  ((atI t_1 k_3).bind fun xq21 =>
  cond (decide (xq21 = (-2 : Int)))
  ((self_zz22 (s_0, t_1, i_2, IntKind.i64.wrap (k_3 + (1 : Int)), known_4, ())).bind fun rq22 =>
  cond rq22.1
  (some (true, (rq22.2.1, ())))
  ((zz10 big t_1 (IntKind.i64.wrap (k_3 + (1 : Int)))).bind fun rq23 =>
  (self_zz22 (s_0, t_1, i_2, rq23.1, rq22.2.1, ())).bind fun rq24 =>
  some (rq24.1, (rq24.2.1, ()))))
  (some (false, (known_4, ()))))))
  ((atI s_0 i_2).bind fun xq25 =>
  cond (decide (xq25 = (-1 : Int)))
  ((self_zz22 (s_0, t_1, IntKind.i64.wrap (i_2 + (1 : Int)), k_3, known_4, ())).bind fun rq26 =>
  cond rq26.1
  (some (true, (rq26.2.1, ())))
  ((zz10 big s_0 (IntKind.i64.wrap (i_2 + (1 : Int)))).bind fun rq27 =>
  (self_zz22 (s_0, t_1, rq27.1, k_3, rq26.2.1, ())).bind fun rq28 =>
  cond rq28.1
  (some (true, (rq28.2.1, ())))
  ((atI t_1 k_3).bind fun xq29 =>
  cond (decide (xq29 = (-2 : Int)))
  ((self_zz22 (s_0, t_1, i_2, IntKind.i64.wrap (k_3 + (1 : Int)), rq28.2.1, ())).bind fun rq30 =>
  cond rq30.1
  (some (true, (rq30.2.1, ())))
  ((zz10 big t_1 (IntKind.i64.wrap (k_3 + (1 : Int)))).bind fun rq31 =>
  (self_zz22 (s_0, t_1, i_2, rq31.1, rq30.2.1, ())).bind fun rq32 =>
  some (rq32.1, (rq32.2.1, ()))))
  (some (false, (rq28.2.1, ()))))))
  ((atI t_1 k_3).bind fun xq33 =>
  cond (decide (xq33 = (-2 : Int)))
  ((self_zz22 (s_0, t_1, i_2, IntKind.i64.wrap (k_3 + (1 : Int)), known_4, ())).bind fun rq34 =>
  cond rq34.1
  (some (true, (rq34.2.1, ())))
  ((zz10 big t_1 (IntKind.i64.wrap (k_3 + (1 : Int)))).bind fun rq35 =>
  (self_zz22 (s_0, t_1, i_2, rq35.1, rq34.2.1, ())).bind fun rq36 =>
  some (rq36.1, (rq36.2.1, ()))))
  (some (false, (known_4, ())))))))
def zz23 (self_zz22 self_zz23 : Z16 → Z17) (s_0 t_1 : Y4) (i_2 k_3 : Int) (known_4 : Y4) : Z17 := zz23_s self_zz22 self_zz23 s_0 t_1 i_2 k_3 known_4
def A_zz23 (self_zz22 self_zz23 : Z16 → Z17) : Cfg := mkCfg tab [(90, T_zz22 self_zz22), (103, S_zz10)] []
theorem run_zz23 (self_zz22 self_zz23 : Z16 → Z17) (N : Nat) (x : ((T_zz23 self_zz23)).a.den) : runF (A_zz23 self_zz22 self_zz23) N Try.f119 (T_zz23 self_zz23) x = zz23 self_zz22 self_zz23 x.1 x.2.1 x.2.2.1 x.2.2.2.1 x.2.2.2.2.1 := by kernel_rfl
theorem fn_zz23 : FnOk Try.prog 119 := ⟨_, Try.func119, by kernel_rfl, by kernel_rfl⟩

/-! zz78 -/
def RR_spec_l28From_spec_l28Ask : Nat → (Z16 → Z17) × (Z16 → Z17)
  | 0 => (fun _ => none, fun _ => none)
  | d + 1 => (fun x => zz22 (RR_spec_l28From_spec_l28Ask d).1 (RR_spec_l28From_spec_l28Ask d).2 x.1 x.2.1 x.2.2.1 x.2.2.2.1 x.2.2.2.2.1, fun x => zz23 (RR_spec_l28From_spec_l28Ask d).1 (RR_spec_l28From_spec_l28Ask d).2 x.1 x.2.1 x.2.2.1 x.2.2.2.1 x.2.2.2.2.1)
def R_zz22 (d : Nat) : Z16 → Z17 := (RR_spec_l28From_spec_l28Ask d).1
def S_zz22 : Sig := T_zz22 (R_zz22 big)
def R_zz23 (d : Nat) : Z16 → Z17 := (RR_spec_l28From_spec_l28Ask d).2
def S_zz23 : Sig := T_zz23 (R_zz23 big)
theorem goodRR_spec_l28From_spec_l28Ask : ∀ d, Gx.Good Try.prog 90 (T_zz22 (R_zz22 d)) ∧ Gx.Good Try.prog 119 (T_zz23 (R_zz23 d))
  | 0 => ⟨(fun x r h => by cases (show (none : Option _) = some r from h)), (fun x r h => by cases (show (none : Option _) = some r from h))⟩
  | d + 1 => ⟨(good_of_run Try.func90 (of_decide_eq_true (by kernel_rfl)) fun x r h => ⟨A_zz22 (R_zz22 d) (R_zz23 d), big, mkCfg_ok tabOk, mkCfg_sigs (show SigsOk Try.prog [(119, T_zz23 (R_zz23 d))] from ⟨⟨fn_zz23, (goodRR_spec_l28From_spec_l28Ask d).2⟩, trivial⟩), (run_zz22 (R_zz22 d) (R_zz23 d) big x).trans h⟩), (good_of_run Try.func119 (of_decide_eq_true (by kernel_rfl)) fun x r h => ⟨A_zz23 (R_zz22 d) (R_zz23 d), big, mkCfg_ok tabOk, mkCfg_sigs (show SigsOk Try.prog [(90, T_zz22 (R_zz22 d)), (103, S_zz10)] from ⟨⟨fn_zz22, (goodRR_spec_l28From_spec_l28Ask d).1⟩, ⟨fn_zz10, good_zz10⟩, trivial⟩), (run_zz23 (R_zz22 d) (R_zz23 d) big x).trans h⟩)⟩
theorem good_zz22 : Gx.Good Try.prog 90 S_zz22 := (goodRR_spec_l28From_spec_l28Ask big).1
theorem good_zz23 : Gx.Good Try.prog 119 S_zz23 := (goodRR_spec_l28From_spec_l28Ask big).2

/-! zz25 -/
def zz25_s (s_0 t_1 : Y4) : Z1 :=
  (mkI (0 : Int) (IntKind.i64.wrap ((s_0.length : Int) * (t_1.length : Int)))).bind fun xq1 => (mkI (0 : Int) (IntKind.i64.wrap ((s_0.length : Int) * (t_1.length : Int)))).bind fun xq2 => cond (decide ((IntKind.i64.wrap ((s_0.length : Int) * (t_1.length : Int))) ≤ (IntKind.i64.wrap ((s_0.length : Int) * (t_1.length : Int)))))
  ((R_zz22 big (s_0, t_1, (0 : Int), (0 : Int), xq2, ())).bind fun rq3 =>
  some (rq3.1, (())))
  none
def zz25 (s_0 t_1 : Y4) : Z1 := zz25_s s_0 t_1
def S_zz25 : Sig := { a := (.pair (.sl I) (.pair (.sl I) .unit)), md := [0, 0], mf := [], m := .unit, r := .bool, rf := .i, f := fun x => zz25 x.1 x.2.1 }
def A_zz25 : Cfg := mkCfg tab [(90, S_zz22)] []
theorem run_zz25 (N : Nat) (x : (S_zz25).a.den) : runF (A_zz25) N Try.f43 S_zz25 x = zz25 x.1 x.2.1 := by kernel_rfl
theorem fn_zz25 : FnOk Try.prog 43 := ⟨_, Try.func43, by kernel_rfl, by kernel_rfl⟩
theorem good_zz25 : Gx.Good Try.prog 43 S_zz25 := good_of_run Try.func43 (of_decide_eq_true (by kernel_rfl)) fun x r h => ⟨A_zz25, big, mkCfg_ok tabOk, mkCfg_sigs (show SigsOk Try.prog [(90, S_zz22)] from ⟨⟨fn_zz22, good_zz22⟩, trivial⟩), (run_zz25 big x).trans h⟩

/-! zz26 -/
def zz26_s (s_0 t_1 : Y4) : Option ((Bool × (Bool × Unit)) × Unit) :=
  (zz12 s_0 t_1).bind fun rq1 =>
  cond (!rq1.1)
  (some ((false, false, ()), (())))
  ((zz25 s_0 t_1).bind fun rq2 =>
  some ((rq2.1, true, ()), (())))
def zz26 (s_0 t_1 : Y4) : Option ((Bool × (Bool × Unit)) × Unit) := zz26_s s_0 t_1
def S_zz26 : Sig := { a := (.pair (.sl I) (.pair (.sl I) .unit)), md := [0, 0], mf := [], m := .unit, r := (.tup (.pair .bool (.pair .bool .unit))), rf := .i, f := fun x => zz26 x.1 x.2.1 }
def A_zz26 : Cfg := mkCfg tab [(38, S_zz12), (43, S_zz25)] []
theorem run_zz26 (N : Nat) (x : (S_zz26).a.den) : runF (A_zz26) N Try.f8 S_zz26 x = zz26 x.1 x.2.1 := by kernel_rfl
theorem fn_zz26 : FnOk Try.prog 8 := ⟨_, Try.func8, by kernel_rfl, by kernel_rfl⟩
theorem good_zz26 : Gx.Good Try.prog 8 S_zz26 := good_of_run Try.func8 (of_decide_eq_true (by kernel_rfl)) fun x r h => ⟨A_zz26, big, mkCfg_ok tabOk, mkCfg_sigs (show SigsOk Try.prog [(38, S_zz12), (43, S_zz25)] from ⟨⟨fn_zz12, good_zz12⟩, ⟨fn_zz25, good_zz25⟩, trivial⟩), (run_zz26 big x).trans h⟩

/-! zz27 -/
def zz27_s (list_0 : Y4) : Option Z11 :=
  (appI [] list_0).bind fun xq1 =>
  some (xq1, (()))
def zz27 (list_0 : Y4) : Option Z11 := zz27_s list_0
def S_zz27 : Sig := { a := (.pair (.sl I) .unit), md := [0], mf := [], m := .unit, r := (.sl I), rf := (.o .i), f := fun x => zz27 x.1 }
def A_zz27 : Cfg := mkCfg tab [] []
theorem run_zz27 (N : Nat) (x : (S_zz27).a.den) : runF (A_zz27) N Try.f91 S_zz27 x = zz27 x.1 := by kernel_rfl
theorem fn_zz27 : FnOk Try.prog 91 := ⟨_, Try.func91, by kernel_rfl, by kernel_rfl⟩
theorem good_zz27 : Gx.Good Try.prog 91 S_zz27 := good_of_run Try.func91 (of_decide_eq_true (by kernel_rfl)) fun x r h => ⟨A_zz27, big, mkCfg_ok tabOk, mkCfg_sigs (show SigsOk Try.prog [] from trivial), (run_zz27 big x).trans h⟩

/-! zz28 -/
def zz28_b3 (rec : Y4 → Int → Int → Option Z11) (k : Y4 → Option Z11) (d3 : Y4) (t9 t10 : Int) : Option Z11 :=
  cond (decide (t10 < t9))
  ((atI d3 t10).bind fun _ =>
  (d3[t10.toNat]?).bind fun xq2 =>
  cond (decide (xq2 < (0 : Int)))
  ((atI d3 t10).bind fun _ =>
  (d3[t10.toNat]?).bind fun xq3 =>
  rec (d3.set t10.toNat (IntKind.i64.wrap ((-3 : Int) - xq2))) t9 (IntKind.i64.wrap (t10 + (1 : Int))))
  (rec d3 t9 (IntKind.i64.wrap (t10 + (1 : Int)))))
  (k d3)
def zz28_a3 (d3 : Y4) : Option Z11 :=
  some (d3, (()))
def zz28_s (L3 : Y4 → Int → Int → Option Z11) (w_0 : Y4) : Option Z11 :=
  (zz27 w_0).bind fun rq1 =>
  L3 rq1.1 (rq1.1.length : Int) (0 : Int)
def zz28_l3 (N : Nat) (k : Y4 → Option Z11) : Nat → Y4 → Int → Int → Option Z11
  | 0, _, _, _ => none
  | m + 1, d3, t9, t10 => zz28_b3 (zz28_l3 N k m) k d3 t9 t10
def zz28_F3 (N : Nat) (d3 : Y4) (t9 t10 : Int) : Option Z11 := zz28_l3 N (zz28_a3) N d3 t9 t10
def zz28 (N : Nat) (w_0 : Y4) : Option Z11 := zz28_s (zz28_F3 N) w_0
def S_zz28 : Sig := { a := (.pair (.sl I) .unit), md := [0], mf := [], m := .unit, r := (.sl I), rf := (.o .i), f := fun x => zz28 big x.1 }
def A_zz28 : Cfg := mkCfg tab [(91, S_zz27)] [(6, [.drop, .drop, .drop, .as (.sl I) (.o .i), .drop, .drop, .drop, .drop, .keep, .as I .i, .as I .i]), (17, [.drop, .drop, .drop, .as (.sl I) (.o .i)])]
noncomputable def zz28_R3 (N n : Nat) (K : Ex → St → Option Z11) (d3 : Y4) (t9 t10 : Int) : Option Z11 := iter ((A_zz28).shape 6) (run (A_zz28) N (codeAt Try.f45 [1, 1, 0, 1, 0, 0])) n ([.u, .u, .u, .val (.sl I) (.o .i) d3, .u, .u, .u, .u, .ref 3 [] .val, .val I .i t9, .val I .i t10] ++ List.replicate 13 .u) K
noncomputable abbrev zz28_z : Ex → St → Option Z11 := finish (A_zz28) S_zz28 Try.f45.results.toList
noncomputable abbrev zz28_X3 (kX : St → Option Z11) : Y4 → Option Z11 := fun (d3 : Y4) => kX ([.u, .u, .u, .val (.sl I) (.o .i) d3] ++ List.replicate 20 .u)
noncomputable abbrev zz28_E3 (kX : St → Option Z11) (kO : Nat → St → Option Z11) : Ex → St → Option Z11 := exK zz28_z 0 ((A_zz28).shape 17) kX kO
theorem zz28_step3 (N m : Nat) (kX : St → Option Z11) (kO : Nat → St → Option Z11) (d3 : Y4) (t9 t10 : Int) : zz28_R3 N (m + 1) (zz28_E3 kX kO) d3 t9 t10 = zz28_b3 (zz28_R3 N m (zz28_E3 kX kO)) (zz28_X3 kX) d3 t9 t10 := by kernel_rfl
theorem zz28_iter3 (N : Nat) (kX : St → Option Z11) (kO : Nat → St → Option Z11) : ∀ (n : Nat) (d3 : Y4) (t9 t10 : Int), zz28_R3 N n (zz28_E3 kX kO) d3 t9 t10 = zz28_l3 N (zz28_X3 kX) n d3 t9 t10
  | 0, _, _, _ => rfl
  | m + 1, d3, t9, t10 => by
    have hrec : zz28_R3 N m (zz28_E3 kX kO) = (zz28_l3 N (zz28_X3 kX) m) := (funext fun d3 => (funext fun t9 => (funext fun t10 => zz28_iter3 N kX kO m d3 t9 t10)))
    refine (zz28_step3 N m kX kO d3 t9 t10).trans ?_
    rw [hrec]
    rfl
noncomputable abbrev zz28_K3 (N : Nat) : Ex → St → Option Z11 := (blockK 0 (seqK ((A_zz28).shape 17) (gated ((A_zz28).shape 500008).isSome N (run (A_zz28) N (codeAt Try.f45 [1, 1, 1]))) zz28_z))
noncomputable abbrev zz28_k3 (N : Nat) : St → Option Z11 := fun st' => run (A_zz28) N (codeAt Try.f45 [1, 1, 1]) st' zz28_z
theorem zz28_after3 (N : Nat) (d3 : Y4) : zz28_X3 (zz28_k3 N) d3 = zz28_a3 d3 := by kernel_rfl
theorem zz28_in3 (N : Nat) (d3 : Y4) (t9 t10 : Int) : zz28_R3 N N (zz28_K3 N) d3 t9 t10 = zz28_F3 N d3 t9 t10 :=
  have h : zz28_X3 (zz28_k3 N) = (zz28_a3) := (funext fun d3 => zz28_after3 N d3)
  ((iter_ex (fun st => by kernel_rfl) (fun st => by kernel_rfl)).trans (zz28_iter3 N (zz28_k3 N) (fun j st => (zz28_K3 N) (.exit j) st) N d3 t9 t10)).trans (congrArg (fun k => zz28_l3 N k N d3 t9 t10) h)
theorem run0_zz28 (N : Nat) (x : (S_zz28).a.den) : runF (A_zz28) N Try.f45 S_zz28 x = (zz28_s (zz28_R3 N N (zz28_K3 N)) x.1) := by kernel_rfl
theorem run_zz28 (N : Nat) (x : (S_zz28).a.den) : runF (A_zz28) N Try.f45 S_zz28 x = zz28 N x.1 := by
  refine (run0_zz28 N x).trans ?_
  rw [(funext fun d3 => (funext fun t9 => (funext fun t10 => zz28_in3 N d3 t9 t10)))]
  rfl
theorem fn_zz28 : FnOk Try.prog 45 := ⟨_, Try.func45, by kernel_rfl, by kernel_rfl⟩
theorem good_zz28 : Gx.Good Try.prog 45 S_zz28 := good_of_run Try.func45 (of_decide_eq_true (by kernel_rfl)) fun x r h => ⟨A_zz28, big, mkCfg_ok tabOk, mkCfg_sigs (show SigsOk Try.prog [(91, S_zz27)] from ⟨⟨fn_zz27, good_zz27⟩, trivial⟩), (run_zz28 big x).trans h⟩

/-! zz29 -/
def zz29_s (w_0 : Y4) : Option ((Y4 × (Bool × Unit)) × Unit) :=
  (zz15 w_0).bind fun rq1 =>
  cond (!rq1.1)
  (some (([], false, ()), (())))
  ((zz28 big w_0).bind fun rq2 =>
  some ((rq2.1, true, ()), (())))
def zz29 (w_0 : Y4) : Option ((Y4 × (Bool × Unit)) × Unit) := zz29_s w_0
def S_zz29 : Sig := { a := (.pair (.sl I) .unit), md := [0], mf := [], m := .unit, r := (.tup (.pair (.sl I) (.pair .bool .unit))), rf := (.p (.o .i) .i), f := fun x => zz29 x.1 }
def A_zz29 : Cfg := mkCfg tab [(9, S_zz15), (45, S_zz28)] []
theorem run_zz29 (N : Nat) (x : (S_zz29).a.den) : runF (A_zz29) N Try.f10 S_zz29 x = zz29 x.1 := by kernel_rfl
theorem fn_zz29 : FnOk Try.prog 10 := ⟨_, Try.func10, by kernel_rfl, by kernel_rfl⟩
theorem good_zz29 : Gx.Good Try.prog 10 S_zz29 := good_of_run Try.func10 (of_decide_eq_true (by kernel_rfl)) fun x r h => ⟨A_zz29, big, mkCfg_ok tabOk, mkCfg_sigs (show SigsOk Try.prog [(9, S_zz15), (45, S_zz28)] from ⟨⟨fn_zz15, good_zz15⟩, ⟨fn_zz28, good_zz28⟩, trivial⟩), (run_zz29 big x).trans h⟩

/-! zz30 -/
def zz30_s (sign_0 : Int) (s_1 t_2 : Y4) : Option Z11 :=
  (appI [sign_0] s_1).bind fun xq1 =>
  (appI xq1 t_2).bind fun xq2 =>
  some (xq2, (()))
def zz30 (sign_0 : Int) (s_1 t_2 : Y4) : Option Z11 := zz30_s sign_0 s_1 t_2
def S_zz30 : Sig := { a := (.pair I (.pair (.sl I) (.pair (.sl I) .unit))), md := [0, 0, 0], mf := [], m := .unit, r := (.sl I), rf := (.o .i), f := fun x => zz30 x.1 x.2.1 x.2.2.1 }
def A_zz30 : Cfg := mkCfg tab [] []
theorem run_zz30 (N : Nat) (x : (S_zz30).a.den) : runF (A_zz30) N Try.f92 S_zz30 x = zz30 x.1 x.2.1 x.2.2.1 := by kernel_rfl
theorem fn_zz30 : FnOk Try.prog 92 := ⟨_, Try.func92, by kernel_rfl, by kernel_rfl⟩
theorem good_zz30 : Gx.Good Try.prog 92 S_zz30 := good_of_run Try.func92 (of_decide_eq_true (by kernel_rfl)) fun x r h => ⟨A_zz30, big, mkCfg_ok tabOk, mkCfg_sigs (show SigsOk Try.prog [] from trivial), (run_zz30 big x).trans h⟩

/-! zz31 -/
def zz31_s (sign_0 : Int) (s_1 t_2 : Y4) : Option ((Y4 × (Bool × Unit)) × Unit) :=
  (zz16 s_1 t_2).bind fun rq1 =>
  cond (!rq1.1)
  (some (([], false, ()), (())))
  (cond (decide ((40 : Int) < (IntKind.i64.wrap ((IntKind.i64.wrap ((s_1.length : Int) + (t_2.length : Int))) + (1 : Int)))))
  (some (([], false, ()), (())))
  ((zz30 sign_0 s_1 t_2).bind fun rq2 =>
  some ((rq2.1, true, ()), (()))))
def zz31 (sign_0 : Int) (s_1 t_2 : Y4) : Option ((Y4 × (Bool × Unit)) × Unit) := zz31_s sign_0 s_1 t_2
def S_zz31 : Sig := { a := (.pair I (.pair (.sl I) (.pair (.sl I) .unit))), md := [0, 0, 0], mf := [], m := .unit, r := (.tup (.pair (.sl I) (.pair .bool .unit))), rf := (.p (.o .i) .i), f := fun x => zz31 x.1 x.2.1 x.2.2.1 }
def A_zz31 : Cfg := mkCfg tab [(41, S_zz16), (92, S_zz30)] []
theorem run_zz31 (N : Nat) (x : (S_zz31).a.den) : runF (A_zz31) N Try.f46 S_zz31 x = zz31 x.1 x.2.1 x.2.2.1 := by kernel_rfl
theorem fn_zz31 : FnOk Try.prog 46 := ⟨_, Try.func46, by kernel_rfl, by kernel_rfl⟩
theorem good_zz31 : Gx.Good Try.prog 46 S_zz31 := good_of_run Try.func46 (of_decide_eq_true (by kernel_rfl)) fun x r h => ⟨A_zz31, big, mkCfg_ok tabOk, mkCfg_sigs (show SigsOk Try.prog [(41, S_zz16), (92, S_zz30)] from ⟨⟨fn_zz16, good_zz16⟩, ⟨fn_zz30, good_zz30⟩, trivial⟩), (run_zz31 big x).trans h⟩

/-! zz32 -/
def zz32_s (s_0 t_1 : Y4) : Option ((Y4 × (Bool × Unit)) × Unit) :=
  (zz31 (-1 : Int) s_0 t_1).bind fun rq1 =>
  some ((rq1.1.1, (((), rq1.1.2).2).1, ()), (()))
def zz32 (s_0 t_1 : Y4) : Option ((Y4 × (Bool × Unit)) × Unit) := zz32_s s_0 t_1
def S_zz32 : Sig := { a := (.pair (.sl I) (.pair (.sl I) .unit)), md := [0, 0], mf := [], m := .unit, r := (.tup (.pair (.sl I) (.pair .bool .unit))), rf := (.p (.o .i) .i), f := fun x => zz32 x.1 x.2.1 }
def A_zz32 : Cfg := mkCfg tab [(46, S_zz31)] []
theorem run_zz32 (N : Nat) (x : (S_zz32).a.den) : runF (A_zz32) N Try.f11 S_zz32 x = zz32 x.1 x.2.1 := by kernel_rfl
theorem fn_zz32 : FnOk Try.prog 11 := ⟨_, Try.func11, by kernel_rfl, by kernel_rfl⟩
theorem good_zz32 : Gx.Good Try.prog 11 S_zz32 := good_of_run Try.func11 (of_decide_eq_true (by kernel_rfl)) fun x r h => ⟨A_zz32, big, mkCfg_ok tabOk, mkCfg_sigs (show SigsOk Try.prog [(46, S_zz31)] from ⟨⟨fn_zz31, good_zz31⟩, trivial⟩), (run_zz32 big x).trans h⟩

/-! zz33 -/
def zz33_s (s_0 t_1 : Y4) : Z1 :=
  (zz20 s_0 t_1).bind fun rq1 =>
  cond rq1.1
  ((zz20 t_1 s_0).bind fun rq2 =>
  some (rq2.1, (())))
  (some (false, (())))
def zz33 (s_0 t_1 : Y4) : Z1 := zz33_s s_0 t_1
def S_zz33 : Sig := { a := (.pair (.sl I) (.pair (.sl I) .unit)), md := [0, 0], mf := [], m := .unit, r := .bool, rf := .i, f := fun x => zz33 x.1 x.2.1 }
def A_zz33 : Cfg := mkCfg tab [(42, S_zz20)] []
theorem run_zz33 (N : Nat) (x : (S_zz33).a.den) : runF (A_zz33) N Try.f47 S_zz33 x = zz33 x.1 x.2.1 := by kernel_rfl
theorem fn_zz33 : FnOk Try.prog 47 := ⟨_, Try.func47, by kernel_rfl, by kernel_rfl⟩
theorem good_zz33 : Gx.Good Try.prog 47 S_zz33 := good_of_run Try.func47 (of_decide_eq_true (by kernel_rfl)) fun x r h => ⟨A_zz33, big, mkCfg_ok tabOk, mkCfg_sigs (show SigsOk Try.prog [(42, S_zz20)] from ⟨⟨fn_zz20, good_zz20⟩, trivial⟩), (run_zz33 big x).trans h⟩

/-! zz34 -/
def zz34_s (s_0 t_1 : Y4) : Option ((Bool × (Bool × Unit)) × Unit) :=
  (zz16 s_0 t_1).bind fun rq1 =>
  cond (!rq1.1)
  (some ((false, false, ()), (())))
  ((zz33 s_0 t_1).bind fun rq2 =>
  some ((rq2.1, true, ()), (())))
def zz34 (s_0 t_1 : Y4) : Option ((Bool × (Bool × Unit)) × Unit) := zz34_s s_0 t_1
def S_zz34 : Sig := { a := (.pair (.sl I) (.pair (.sl I) .unit)), md := [0, 0], mf := [], m := .unit, r := (.tup (.pair .bool (.pair .bool .unit))), rf := .i, f := fun x => zz34 x.1 x.2.1 }
def A_zz34 : Cfg := mkCfg tab [(41, S_zz16), (47, S_zz33)] []
theorem run_zz34 (N : Nat) (x : (S_zz34).a.den) : runF (A_zz34) N Try.f12 S_zz34 x = zz34 x.1 x.2.1 := by kernel_rfl
theorem fn_zz34 : FnOk Try.prog 12 := ⟨_, Try.func12, by kernel_rfl, by kernel_rfl⟩
theorem good_zz34 : Gx.Good Try.prog 12 S_zz34 := good_of_run Try.func12 (of_decide_eq_true (by kernel_rfl)) fun x r h => ⟨A_zz34, big, mkCfg_ok tabOk, mkCfg_sigs (show SigsOk Try.prog [(41, S_zz16), (47, S_zz33)] from ⟨⟨fn_zz16, good_zz16⟩, ⟨fn_zz33, good_zz33⟩, trivial⟩), (run_zz34 big x).trans h⟩

/-! zz35 -/
def zz35_s (s_0 t_1 : Y4) : Option ((Y4 × (Bool × Unit)) × Unit) :=
  (zz31 (-2 : Int) s_0 t_1).bind fun rq1 =>
  some ((rq1.1.1, (((), rq1.1.2).2).1, ()), (()))
def zz35 (s_0 t_1 : Y4) : Option ((Y4 × (Bool × Unit)) × Unit) := zz35_s s_0 t_1
def S_zz35 : Sig := { a := (.pair (.sl I) (.pair (.sl I) .unit)), md := [0, 0], mf := [], m := .unit, r := (.tup (.pair (.sl I) (.pair .bool .unit))), rf := (.p (.o .i) .i), f := fun x => zz35 x.1 x.2.1 }
def A_zz35 : Cfg := mkCfg tab [(46, S_zz31)] []
theorem run_zz35 (N : Nat) (x : (S_zz35).a.den) : runF (A_zz35) N Try.f13 S_zz35 x = zz35 x.1 x.2.1 := by kernel_rfl
theorem fn_zz35 : FnOk Try.prog 13 := ⟨_, Try.func13, by kernel_rfl, by kernel_rfl⟩
theorem good_zz35 : Gx.Good Try.prog 13 S_zz35 := good_of_run Try.func13 (of_decide_eq_true (by kernel_rfl)) fun x r h => ⟨A_zz35, big, mkCfg_ok tabOk, mkCfg_sigs (show SigsOk Try.prog [(46, S_zz31)] from ⟨⟨fn_zz31, good_zz31⟩, trivial⟩), (run_zz35 big x).trans h⟩

/-! zz36 -/
def zz36_b3 (rec : Z10 → Int → Y4 → Int → Z8) (k : Z10 → Int → Y4 → Z8) (c0 : Z10) (n1 : Int) (out5 : Y4) (i6 : Int) : Z8 :=
  cond (decide (i6 < n1))
  ((zz2 c0 (IntKind.i64.wrap ((out5.length : Int) + (1 : Int)))).bind fun rq1 =>
  (slI out5 0 rq1.1).bind fun xq2 =>
  (appI [] xq2).bind fun xq3 =>
  (appI xq3 [i6]).bind fun xq4 =>
  (slI out5 rq1.1 out5.length).bind fun xq5 =>
  (appI xq4 xq5).bind fun xq6 =>
  rec rq1.2.1 n1 xq6 (IntKind.i64.wrap (i6 + (1 : Int))))
  (k c0 n1 out5)
def zz36_a3 (c0 : Z10) (n1 : Int) (out5 : Y4) : Z8 :=
  (zz2 c0 (24 : Int)).bind fun rq7 =>
  cond (decide (rq7.1 = (0 : Int)))
  ((appI out5 [n1]).bind fun xq8 =>
  some (xq8, (rq7.2.1, ())))
  (cond (decide (rq7.1 = (1 : Int)))
  (cond (decide ((0 : Int) < n1))
  ((zz2 rq7.2.1 n1).bind fun rq9 =>
  (zz3 rq9.2.1 [(0 : Int), (-1 : Int), n1]).bind fun rq10 =>
  (atI out5 rq9.1).bind fun _ =>
  (out5[rq9.1.toNat]?).bind fun xq11 =>
  some (out5.set rq9.1.toNat rq10.1, (rq10.2.1, ())))
  (some (out5, (rq7.2.1, ()))))
  (some (out5, (rq7.2.1, ()))))
def zz36_s (L3 : Z10 → Int → Y4 → Int → Z8) (c_0 : Z10) (n_1 : Int) : Z8 :=
  L3 c_0 n_1 [] (0 : Int)
def zz36_l3 (N : Nat) (k : Z10 → Int → Y4 → Z8) : Nat → Z10 → Int → Y4 → Int → Z8
  | 0, _, _, _, _ => none
  | m + 1, c0, n1, out5, i6 => zz36_b3 (zz36_l3 N k m) k c0 n1 out5 i6
def zz36_F3 (N : Nat) (c0 : Z10) (n1 : Int) (out5 : Y4) (i6 : Int) : Z8 := zz36_l3 N (zz36_a3) N c0 n1 out5 i6
def zz36 (N : Nat) (c_0 : Z10) (n_1 : Int) : Z8 := zz36_s (zz36_F3 N) c_0 n_1
def S_zz36 : Sig := { a := (.pair (.ptr (.pair (.sl (.int .u8)) (.pair I (.pair (.int .u64) .unit)))) (.pair I .unit)), md := [1, 0], mf := [(.o .i)], m := (.pair (.ptr (.pair (.sl (.int .u8)) (.pair I (.pair (.int .u64) .unit)))) .unit), r := (.sl I), rf := (.o .i), f := fun x => zz36 big x.1 x.2.1 }
def A_zz36 : Cfg := mkCfg tab [(39, S_zz2), (87, S_zz3)] [(6, [.as (.ptr (.pair (.sl (.int .u8)) (.pair I (.pair (.int .u64) .unit)))) (.o .i), .as I .i, .drop, .drop, .drop, .as (.sl I) (.o .i), .as I .i]), (13, [.as (.ptr (.pair (.sl (.int .u8)) (.pair I (.pair (.int .u64) .unit)))) (.o .i), .as I .i, .drop, .drop, .drop, .as (.sl I) .i, .as I .i, .as I .i]), (15, [.as (.ptr (.pair (.sl (.int .u8)) (.pair I (.pair (.int .u64) .unit)))) (.o .i), .as I .i, .drop, .drop, .drop, .as (.sl I) (.o .i)])]
noncomputable def zz36_R3 (N n : Nat) (K : Ex → St → Z8) (c0 : Z10) (n1 : Int) (out5 : Y4) (i6 : Int) : Z8 := iter ((A_zz36).shape 6) (run (A_zz36) N (codeAt Try.f95 [1, 1, 0, 1, 0, 0])) n ([.val (.ptr (.pair (.sl (.int .u8)) (.pair I (.pair (.int .u64) .unit)))) (.o .i) c0, .val I .i n1, .u, .u, .u, .val (.sl I) (.o .i) out5, .val I .i i6] ++ List.replicate 46 .u) K
noncomputable abbrev zz36_z : Ex → St → Z8 := finish (A_zz36) S_zz36 Try.f95.results.toList
noncomputable abbrev zz36_X3 (kX : St → Z8) : Z10 → Int → Y4 → Z8 := fun (c0 : Z10) (n1 : Int) (out5 : Y4) => kX ([.val (.ptr (.pair (.sl (.int .u8)) (.pair I (.pair (.int .u64) .unit)))) (.o .i) c0, .val I .i n1, .u, .u, .u, .val (.sl I) (.o .i) out5] ++ List.replicate 47 .u)
noncomputable abbrev zz36_E3 (kX : St → Z8) (kO : Nat → St → Z8) : Ex → St → Z8 := exK zz36_z 0 ((A_zz36).shape 15) kX kO
theorem zz36_step3 (N m : Nat) (kX : St → Z8) (kO : Nat → St → Z8) (c0 : Z10) (n1 : Int) (out5 : Y4) (i6 : Int) : zz36_R3 N (m + 1) (zz36_E3 kX kO) c0 n1 out5 i6 = zz36_b3 (zz36_R3 N m (zz36_E3 kX kO)) (zz36_X3 kX) c0 n1 out5 i6 := by kernel_rfl
theorem zz36_iter3 (N : Nat) (kX : St → Z8) (kO : Nat → St → Z8) : ∀ (n : Nat) (c0 : Z10) (n1 : Int) (out5 : Y4) (i6 : Int), zz36_R3 N n (zz36_E3 kX kO) c0 n1 out5 i6 = zz36_l3 N (zz36_X3 kX) n c0 n1 out5 i6
  | 0, _, _, _, _ => rfl
  | m + 1, c0, n1, out5, i6 => by
    have hrec : zz36_R3 N m (zz36_E3 kX kO) = (zz36_l3 N (zz36_X3 kX) m) := (funext fun c0 => (funext fun n1 => (funext fun out5 => (funext fun i6 => zz36_iter3 N kX kO m c0 n1 out5 i6))))
    refine (zz36_step3 N m kX kO c0 n1 out5 i6).trans ?_
    rw [hrec]
    rfl
noncomputable abbrev zz36_K3 (N : Nat) : Ex → St → Z8 := (blockK 0 (seqK ((A_zz36).shape 15) (gated ((A_zz36).shape 500007).isSome N (run (A_zz36) N (codeAt Try.f95 [1, 1, 1]))) zz36_z))
noncomputable abbrev zz36_k3 (N : Nat) : St → Z8 := fun st' => run (A_zz36) N (codeAt Try.f95 [1, 1, 1]) st' zz36_z
theorem zz36_after3 (N : Nat) (c0 : Z10) (n1 : Int) (out5 : Y4) : zz36_X3 (zz36_k3 N) c0 n1 out5 = zz36_a3 c0 n1 out5 := by kernel_rfl
theorem zz36_in3 (N : Nat) (c0 : Z10) (n1 : Int) (out5 : Y4) (i6 : Int) : zz36_R3 N N (zz36_K3 N) c0 n1 out5 i6 = zz36_F3 N c0 n1 out5 i6 :=
  have h : zz36_X3 (zz36_k3 N) = (zz36_a3) := (funext fun c0 => (funext fun n1 => (funext fun out5 => zz36_after3 N c0 n1 out5)))
  ((iter_ex (fun st => by kernel_rfl) (fun st => by kernel_rfl)).trans (zz36_iter3 N (zz36_k3 N) (fun j st => (zz36_K3 N) (.exit j) st) N c0 n1 out5 i6)).trans (congrArg (fun k => zz36_l3 N k N c0 n1 out5 i6) h)
theorem run0_zz36 (N : Nat) (x : (S_zz36).a.den) : runF (A_zz36) N Try.f95 S_zz36 x = (zz36_s (zz36_R3 N N (zz36_K3 N)) x.1 x.2.1) := by kernel_rfl
theorem run_zz36 (N : Nat) (x : (S_zz36).a.den) : runF (A_zz36) N Try.f95 S_zz36 x = zz36 N x.1 x.2.1 := by
  refine (run0_zz36 N x).trans ?_
  rw [(funext fun c0 => (funext fun n1 => (funext fun out5 => (funext fun i6 => zz36_in3 N c0 n1 out5 i6))))]
  rfl
theorem fn_zz36 : FnOk Try.prog 95 := ⟨_, Try.func95, by kernel_rfl, by kernel_rfl⟩
theorem good_zz36 : Gx.Good Try.prog 95 S_zz36 := good_of_run Try.func95 (of_decide_eq_true (by kernel_rfl)) fun x r h => ⟨A_zz36, big, mkCfg_ok tabOk, mkCfg_sigs (show SigsOk Try.prog [(39, S_zz2), (87, S_zz3)] from ⟨⟨fn_zz2, good_zz2⟩, ⟨fn_zz3, good_zz3⟩, trivial⟩), (run_zz36 big x).trans h⟩

/-! zz37 -/
def zz37_b2 (rec : Int → Y4 → Int → Z1) (k : Z1) (n0 : Int) (list1 : Y4) (i5 : Int) : Z1 :=
  cond (decide (i5 < (list1.length : Int)))
  ((atI list1 i5).bind fun xq1 =>
  (zz9 xq1 (0 : Int) (IntKind.i64.wrap (n0 - (1 : Int)))).bind fun rq2 =>
  cond (!rq2.1)
  (some (false, (())))
  (rec n0 list1 (IntKind.i64.wrap (i5 + (1 : Int)))))
  (k)
def zz37_a2 : Z1 :=
  some (true, (()))
def zz37_s (L2 : Int → Y4 → Int → Z1) (n_0 : Int) (list_1 : Y4) : Z1 :=
  L2 n_0 list_1 (0 : Int)
def zz37_l2 (N : Nat) (k : Z1) : Nat → Int → Y4 → Int → Z1
  | 0, _, _, _ => none
  | m + 1, n0, list1, i5 => zz37_b2 (zz37_l2 N k m) k n0 list1 i5
def zz37_F2 (N : Nat) (n0 : Int) (list1 : Y4) (i5 : Int) : Z1 := zz37_l2 N (zz37_a2) N n0 list1 i5
def zz37 (N : Nat) (n_0 : Int) (list_1 : Y4) : Z1 := zz37_s (zz37_F2 N) n_0 list_1
def S_zz37 : Sig := { a := (.pair I (.pair (.sl I) .unit)), md := [0, 0], mf := [], m := .unit, r := .bool, rf := .i, f := fun x => zz37 big x.1 x.2.1 }
def A_zz37 : Cfg := mkCfg tab [(107, S_zz9)] [(4, [.as I .i, .as (.sl I) .i, .drop, .drop, .drop, .as I .i]), (13, [])]
noncomputable def zz37_R2 (N n : Nat) (K : Ex → St → Z1) (n0 : Int) (list1 : Y4) (i5 : Int) : Z1 := iter ((A_zz37).shape 4) (run (A_zz37) N (codeAt Try.f56 [1, 0, 1, 0, 0])) n ([.val I .i n0, .val (.sl I) .i list1, .u, .u, .u, .val I .i i5] ++ List.replicate 14 .u) K
noncomputable abbrev zz37_z : Ex → St → Z1 := finish (A_zz37) S_zz37 Try.f56.results.toList
noncomputable abbrev zz37_X2 (kX : St → Z1) : Z1 := kX ([] ++ List.replicate 20 .u)
noncomputable abbrev zz37_E2 (kX : St → Z1) (kO : Nat → St → Z1) : Ex → St → Z1 := exK zz37_z 0 ((A_zz37).shape 13) kX kO
theorem zz37_step2 (N m : Nat) (kX : St → Z1) (kO : Nat → St → Z1) (n0 : Int) (list1 : Y4) (i5 : Int) : zz37_R2 N (m + 1) (zz37_E2 kX kO) n0 list1 i5 = zz37_b2 (zz37_R2 N m (zz37_E2 kX kO)) (zz37_X2 kX) n0 list1 i5 := by kernel_rfl
theorem zz37_iter2 (N : Nat) (kX : St → Z1) (kO : Nat → St → Z1) : ∀ (n : Nat) (n0 : Int) (list1 : Y4) (i5 : Int), zz37_R2 N n (zz37_E2 kX kO) n0 list1 i5 = zz37_l2 N (zz37_X2 kX) n n0 list1 i5
  | 0, _, _, _ => rfl
  | m + 1, n0, list1, i5 => by
    have hrec : zz37_R2 N m (zz37_E2 kX kO) = (zz37_l2 N (zz37_X2 kX) m) := (funext fun n0 => (funext fun list1 => (funext fun i5 => zz37_iter2 N kX kO m n0 list1 i5)))
    refine (zz37_step2 N m kX kO n0 list1 i5).trans ?_
    rw [hrec]
    rfl
noncomputable abbrev zz37_K2 (N : Nat) : Ex → St → Z1 := (blockK 0 (seqK ((A_zz37).shape 13) (gated ((A_zz37).shape 500006).isSome N (run (A_zz37) N (codeAt Try.f56 [1, 1]))) zz37_z))
noncomputable abbrev zz37_k2 (N : Nat) : St → Z1 := fun st' => run (A_zz37) N (codeAt Try.f56 [1, 1]) st' zz37_z
theorem zz37_after2 (N : Nat) : zz37_X2 (zz37_k2 N) = zz37_a2 := by kernel_rfl
theorem zz37_in2 (N : Nat) (n0 : Int) (list1 : Y4) (i5 : Int) : zz37_R2 N N (zz37_K2 N) n0 list1 i5 = zz37_F2 N n0 list1 i5 :=
  have h : zz37_X2 (zz37_k2 N) = (zz37_a2) := zz37_after2 N
  ((iter_ex (fun st => by kernel_rfl) (fun st => by kernel_rfl)).trans (zz37_iter2 N (zz37_k2 N) (fun j st => (zz37_K2 N) (.exit j) st) N n0 list1 i5)).trans (congrArg (fun k => zz37_l2 N k N n0 list1 i5) h)
theorem run0_zz37 (N : Nat) (x : (S_zz37).a.den) : runF (A_zz37) N Try.f56 S_zz37 x = (zz37_s (zz37_R2 N N (zz37_K2 N)) x.1 x.2.1) := by kernel_rfl
theorem run_zz37 (N : Nat) (x : (S_zz37).a.den) : runF (A_zz37) N Try.f56 S_zz37 x = zz37 N x.1 x.2.1 := by
  refine (run0_zz37 N x).trans ?_
  rw [(funext fun n0 => (funext fun list1 => (funext fun i5 => zz37_in2 N n0 list1 i5)))]
  rfl
theorem fn_zz37 : FnOk Try.prog 56 := ⟨_, Try.func56, by kernel_rfl, by kernel_rfl⟩
theorem good_zz37 : Gx.Good Try.prog 56 S_zz37 := good_of_run Try.func56 (of_decide_eq_true (by kernel_rfl)) fun x r h => ⟨A_zz37, big, mkCfg_ok tabOk, mkCfg_sigs (show SigsOk Try.prog [(107, S_zz9)] from ⟨⟨fn_zz9, good_zz9⟩, trivial⟩), (run_zz37 big x).trans h⟩

/-! zz38 -/
def zz38_b5 (rec : Y4 → Int → (List Bool) → Int → Z1) (k : Z1) (l0 : Y4) (n1 : Int) (seen5 : (List Bool)) (i6 : Int) : Z1 :=
  cond (decide (i6 < n1))
  ((atI l0 i6).bind fun xq4 =>
  (atI seen5 xq4).bind fun _ =>
  (seen5[xq4.toNat]?).bind fun xq5 =>
  cond xq5
  (some (false, (())))
  ((atI l0 i6).bind fun xq6 =>
  (atI seen5 xq6).bind fun _ =>
  (seen5[xq6.toNat]?).bind fun xq7 =>
  rec l0 n1 (seen5.set xq6.toNat true) (IntKind.i64.wrap (i6 + (1 : Int)))))
  (k)
def zz38_a5 : Z1 :=
  some (true, (()))
def zz38_s (L5 : Y4 → Int → (List Bool) → Int → Z1) (l_0 : Y4) (n_1 : Int) : Z1 :=
  cond (decide ((l_0.length : Int) ≠ n_1))
  (some (false, (())))
  ((zz37 big n_1 l_0).bind fun rq1 =>
  cond (!rq1.1)
  (some (false, (())))
  ((mkI false n_1).bind fun xq2 => (mkI false n_1).bind fun xq3 => cond (decide (n_1 ≤ n_1))
  (L5 l_0 n_1 xq3 (0 : Int))
  none))
def zz38_l5 (N : Nat) (k : Z1) : Nat → Y4 → Int → (List Bool) → Int → Z1
  | 0, _, _, _, _ => none
  | m + 1, l0, n1, seen5, i6 => zz38_b5 (zz38_l5 N k m) k l0 n1 seen5 i6
def zz38_F5 (N : Nat) (l0 : Y4) (n1 : Int) (seen5 : (List Bool)) (i6 : Int) : Z1 := zz38_l5 N (zz38_a5) N l0 n1 seen5 i6
def zz38 (N : Nat) (l_0 : Y4) (n_1 : Int) : Z1 := zz38_s (zz38_F5 N) l_0 n_1
def S_zz38 : Sig := { a := (.pair (.sl I) (.pair I .unit)), md := [0, 0], mf := [], m := .unit, r := .bool, rf := .i, f := fun x => zz38 big x.1 x.2.1 }
def A_zz38 : Cfg := mkCfg tab [(56, S_zz37)] [(10, [.as (.sl I) .i, .as I .i, .drop, .drop, .drop, .as (.sl .bool) (.o .i), .as I .i]), (21, [])]
noncomputable def zz38_R5 (N n : Nat) (K : Ex → St → Z1) (l0 : Y4) (n1 : Int) (seen5 : (List Bool)) (i6 : Int) : Z1 := iter ((A_zz38).shape 10) (run (A_zz38) N (codeAt Try.f96 [1, 1, 1, 0, 1, 0, 0])) n ([.val (.sl I) .i l0, .val I .i n1, .u, .u, .u, .val (.sl .bool) (.o .i) seen5, .val I .i i6] ++ List.replicate 30 .u) K
noncomputable abbrev zz38_z : Ex → St → Z1 := finish (A_zz38) S_zz38 Try.f96.results.toList
noncomputable abbrev zz38_X5 (kX : St → Z1) : Z1 := kX ([] ++ List.replicate 37 .u)
noncomputable abbrev zz38_E5 (kX : St → Z1) (kO : Nat → St → Z1) : Ex → St → Z1 := exK zz38_z 0 ((A_zz38).shape 21) kX kO
theorem zz38_step5 (N m : Nat) (kX : St → Z1) (kO : Nat → St → Z1) (l0 : Y4) (n1 : Int) (seen5 : (List Bool)) (i6 : Int) : zz38_R5 N (m + 1) (zz38_E5 kX kO) l0 n1 seen5 i6 = zz38_b5 (zz38_R5 N m (zz38_E5 kX kO)) (zz38_X5 kX) l0 n1 seen5 i6 := by kernel_rfl
theorem zz38_iter5 (N : Nat) (kX : St → Z1) (kO : Nat → St → Z1) : ∀ (n : Nat) (l0 : Y4) (n1 : Int) (seen5 : (List Bool)) (i6 : Int), zz38_R5 N n (zz38_E5 kX kO) l0 n1 seen5 i6 = zz38_l5 N (zz38_X5 kX) n l0 n1 seen5 i6
  | 0, _, _, _, _ => rfl
  | m + 1, l0, n1, seen5, i6 => by
    have hrec : zz38_R5 N m (zz38_E5 kX kO) = (zz38_l5 N (zz38_X5 kX) m) := (funext fun l0 => (funext fun n1 => (funext fun seen5 => (funext fun i6 => zz38_iter5 N kX kO m l0 n1 seen5 i6))))
    refine (zz38_step5 N m kX kO l0 n1 seen5 i6).trans ?_
    rw [hrec]
    rfl
noncomputable abbrev zz38_K5 (N : Nat) : Ex → St → Z1 := (blockK 0 (seqK ((A_zz38).shape 21) (gated ((A_zz38).shape 500010).isSome N (run (A_zz38) N (codeAt Try.f96 [1, 1, 1, 1]))) zz38_z))
noncomputable abbrev zz38_k5 (N : Nat) : St → Z1 := fun st' => run (A_zz38) N (codeAt Try.f96 [1, 1, 1, 1]) st' zz38_z
theorem zz38_after5 (N : Nat) : zz38_X5 (zz38_k5 N) = zz38_a5 := by kernel_rfl
theorem zz38_in5 (N : Nat) (l0 : Y4) (n1 : Int) (seen5 : (List Bool)) (i6 : Int) : zz38_R5 N N (zz38_K5 N) l0 n1 seen5 i6 = zz38_F5 N l0 n1 seen5 i6 :=
  have h : zz38_X5 (zz38_k5 N) = (zz38_a5) := zz38_after5 N
  ((iter_ex (fun st => by kernel_rfl) (fun st => by kernel_rfl)).trans (zz38_iter5 N (zz38_k5 N) (fun j st => (zz38_K5 N) (.exit j) st) N l0 n1 seen5 i6)).trans (congrArg (fun k => zz38_l5 N k N l0 n1 seen5 i6) h)
theorem run0_zz38 (N : Nat) (x : (S_zz38).a.den) : runF (A_zz38) N Try.f96 S_zz38 x = (zz38_s (zz38_R5 N N (zz38_K5 N)) x.1 x.2.1) := by kernel_rfl
theorem run_zz38 (N : Nat) (x : (S_zz38).a.den) : runF (A_zz38) N Try.f96 S_zz38 x = zz38 N x.1 x.2.1 := by
  refine (run0_zz38 N x).trans ?_
  rw [(funext fun l0 => (funext fun n1 => (funext fun seen5 => (funext fun i6 => zz38_in5 N l0 n1 seen5 i6))))]
  rfl
theorem fn_zz38 : FnOk Try.prog 96 := ⟨_, Try.func96, by kernel_rfl, by kernel_rfl⟩
theorem good_zz38 : Gx.Good Try.prog 96 S_zz38 := good_of_run Try.func96 (of_decide_eq_true (by kernel_rfl)) fun x r h => ⟨A_zz38, big, mkCfg_ok tabOk, mkCfg_sigs (show SigsOk Try.prog [(56, S_zz37)] from ⟨⟨fn_zz37, good_zz37⟩, trivial⟩), (run_zz38 big x).trans h⟩

/-! zz39 -/
def zz39_b28 (rec : Int → Y2 → Y5 → Y2 → Int → Y4 → Int → Z2) (k : Int → Y2 → Y5 → Y2 → Int → Y4 → Z2) (n0 : Int) (t4 : Y2) (leq5 : Y5) (p12 : Y2) (y13 : Int) (below14 : Y4) (x15 : Int) : Z2 :=
  cond (decide (x15 < n0))
  ((atI leq5 x15).bind fun _ =>
  (leq5[x15.toNat]?).bind fun xq33 =>
  (leq5[x15.toNat]?).bind fun xq34 =>
  (atI xq34 y13).bind fun _ =>
  (leq5[x15.toNat]?).bind fun xq35 =>
  (xq35[y13.toNat]?).bind fun xq36 =>
  cond xq36
  ((appI below14 [x15]).bind fun xq37 =>
  rec n0 t4 leq5 p12 y13 xq37 (IntKind.i64.wrap (x15 + (1 : Int))))
  (rec n0 t4 leq5 p12 y13 below14 (IntKind.i64.wrap (x15 + (1 : Int)))))
  (k n0 t4 leq5 p12 y13 below14)
def zz39_a28 (rec : Int → Y2 → Y5 → Y2 → Int → Z2) (n0 : Int) (t4 : Y2) (leq5 : Y5) (p12 : Y2) (y13 : Int) (below14 : Y4) : Z2 :=
  (appI p12.1 [below14]).bind fun xq38 =>
  rec n0 t4 leq5 (xq38, ((), p12.2).2) (IntKind.i64.wrap (y13 + (1 : Int)))
def zz39_b19 (rec : Int → Y2 → Y5 → Int → Int → Int → Z2) (k : Int → Y2 → Y5 → Int → Int → Z2) (n0 : Int) (t4 : Y2) (leq5 : Y5) (z9 x10 y11 : Int) : Z2 :=
  cond (decide (y11 < n0))
  ((atI leq5 x10).bind fun _ =>
  (leq5[x10.toNat]?).bind fun xq11 =>
  (atI leq5 x10).bind fun _ =>
  (leq5[x10.toNat]?).bind fun xq12 =>
  (leq5[x10.toNat]?).bind fun xq13 =>
  (atI xq13 y11).bind fun _ =>
  (leq5[x10.toNat]?).bind fun xq14 =>
  (xq14[y11.toNat]?).bind fun xq15 =>
  cond xq15
  ((leq5[x10.toNat]?).bind fun xq16 =>
  (atI xq16 y11).bind fun _ =>
  (leq5[x10.toNat]?).bind fun xq17 =>
  (xq17[y11.toNat]?).bind fun xq18 =>
  rec n0 t4 (leq5.set x10.toNat (xq17.set y11.toNat true)) z9 x10 (IntKind.i64.wrap (y11 + (1 : Int))))
  ((atI leq5 x10).bind fun _ =>
  (leq5[x10.toNat]?).bind fun xq19 =>
  (leq5[x10.toNat]?).bind fun xq20 =>
  (atI xq20 z9).bind fun _ =>
  (leq5[x10.toNat]?).bind fun xq21 =>
  (xq21[z9.toNat]?).bind fun xq22 =>
  cond xq22
  ((atI leq5 z9).bind fun _ =>
  (leq5[z9.toNat]?).bind fun xq23 =>
  (leq5[z9.toNat]?).bind fun xq24 =>
  (atI xq24 y11).bind fun _ =>
  (leq5[z9.toNat]?).bind fun xq25 =>
  (xq25[y11.toNat]?).bind fun xq26 =>
  (leq5[x10.toNat]?).bind fun xq27 =>
  (atI xq27 y11).bind fun _ =>
  (leq5[x10.toNat]?).bind fun xq28 =>
  (xq28[y11.toNat]?).bind fun xq29 =>
  rec n0 t4 (leq5.set x10.toNat (xq28.set y11.toNat xq26)) z9 x10 (IntKind.i64.wrap (y11 + (1 : Int))))
  ((leq5[x10.toNat]?).bind fun xq30 =>
  (atI xq30 y11).bind fun _ =>
  (leq5[x10.toNat]?).bind fun xq31 =>
  (xq31[y11.toNat]?).bind fun xq32 =>
  rec n0 t4 (leq5.set x10.toNat (xq31.set y11.toNat false)) z9 x10 (IntKind.i64.wrap (y11 + (1 : Int))))))
  (k n0 t4 leq5 z9 x10)
def zz39_a19 (rec : Int → Y2 → Y5 → Int → Int → Z2) (n0 : Int) (t4 : Y2) (leq5 : Y5) (z9 x10 : Int) : Z2 :=
  rec n0 t4 leq5 z9 (IntKind.i64.wrap (x10 + (1 : Int)))
def zz39_b24 (L28 : Int → Y2 → Y5 → Y2 → Int → Y4 → Int → Z2) (k : Y2 → Y2 → Z2) (n0 : Int) (t4 : Y2) (leq5 : Y5) (p12 : Y2) (y13 : Int) : Z2 :=
  cond (decide (y13 < n0))
  (L28 n0 t4 leq5 p12 y13 [] (0 : Int))
  (k t4 p12)
def zz39_a24 (t4 p12 : Y2) : Z2 :=
  some (p12, (()))
def zz39_b16 (L19 : Int → Y2 → Y5 → Int → Int → Int → Z2) (k : Int → Y2 → Y5 → Int → Z2) (n0 : Int) (t4 : Y2) (leq5 : Y5) (z9 x10 : Int) : Z2 :=
  cond (decide (x10 < n0))
  (L19 n0 t4 leq5 z9 x10 (0 : Int))
  (k n0 t4 leq5 z9)
def zz39_a16 (rec : Int → Y2 → Y5 → Int → Z2) (n0 : Int) (t4 : Y2) (leq5 : Y5) (z9 : Int) : Z2 :=
  rec n0 t4 leq5 (IntKind.i64.wrap (z9 + (1 : Int)))
def zz39_b13 (L16 : Int → Y2 → Y5 → Int → Int → Z2) (k : Int → Y2 → Y5 → Z2) (n0 : Int) (t4 : Y2) (leq5 : Y5) (z9 : Int) : Z2 :=
  cond (decide (z9 < n0))
  (L16 n0 t4 leq5 z9 (0 : Int))
  (k n0 t4 leq5)
def zz39_a13 (L24 : Int → Y2 → Y5 → Y2 → Int → Z2) (n0 : Int) (t4 : Y2) (leq5 : Y5) : Z2 :=
  L24 n0 t4 leq5 ([], ()) (0 : Int)
def zz39_b9 (rec : Int → Z12 → Y2 → Y5 → Int → Z2) (k : Int → Y2 → Y5 → Z2) (n0 : Int) (pairs1 : Z12) (t4 : Y2) (leq5 : Y5) (i8 : Int) : Z2 :=
  cond (decide (i8 < (pairs1.length : Int)))
  ((atI pairs1 i8).bind fun xq5 =>
  (atI leq5 xq5.1).bind fun _ =>
  (leq5[xq5.1.toNat]?).bind fun xq6 =>
  (atI pairs1 i8).bind fun xq7 =>
  (leq5[xq5.1.toNat]?).bind fun xq8 =>
  (atI xq8 xq7.2.1).bind fun _ =>
  (leq5[xq5.1.toNat]?).bind fun xq9 =>
  (xq9[xq7.2.1.toNat]?).bind fun xq10 =>
  rec n0 pairs1 t4 (leq5.set xq5.1.toNat (xq9.set xq7.2.1.toNat true)) (IntKind.i64.wrap (i8 + (1 : Int))))
  (k n0 t4 leq5)
def zz39_a9 (L13 : Int → Y2 → Y5 → Int → Z2) (n0 : Int) (t4 : Y2) (leq5 : Y5) : Z2 :=
  L13 n0 t4 leq5 (0 : Int)
def zz39_b3 (rec : Int → Z12 → Y2 → Y5 → Int → Z2) (k : Int → Z12 → Y2 → Y5 → Z2) (n0 : Int) (pairs1 : Z12) (t4 : Y2) (leq5 : Y5) (x6 : Int) : Z2 :=
  cond (decide (x6 < n0))
  ((mkI false n0).bind fun xq1 => (mkI false n0).bind fun xq2 => cond (decide (n0 ≤ n0))
  ((atI xq2 x6).bind fun _ =>
  (xq2[x6.toNat]?).bind fun xq3 =>
  (appI leq5 [xq2.set x6.toNat true]).bind fun xq4 =>
  rec n0 pairs1 t4 xq4 (IntKind.i64.wrap (x6 + (1 : Int))))
  none)
  (k n0 pairs1 t4 leq5)
def zz39_a3 (L9 : Int → Z12 → Y2 → Y5 → Int → Z2) (n0 : Int) (pairs1 : Z12) (t4 : Y2) (leq5 : Y5) : Z2 :=
  L9 n0 pairs1 t4 leq5 (0 : Int)
def zz39_s (L3 : Int → Z12 → Y2 → Y5 → Int → Z2) (n_0 : Int) (pairs_1 : Z12) : Z2 :=
  L3 n_0 pairs_1 (([] : Y3), ()) [] (0 : Int)
def zz39_l19 (N : Nat) (k : Int → Y2 → Y5 → Int → Int → Z2) : Nat → Int → Y2 → Y5 → Int → Int → Int → Z2
  | 0, _, _, _, _, _, _ => none
  | m + 1, n0, t4, leq5, z9, x10, y11 => zz39_b19 (zz39_l19 N k m) k n0 t4 leq5 z9 x10 y11
def zz39_F19 (N : Nat) (rec : Int → Y2 → Y5 → Int → Int → Z2) (k : Int → Y2 → Y5 → Int → Z2) (n0 : Int) (t4 : Y2) (leq5 : Y5) (z9 x10 y11 : Int) : Z2 := zz39_l19 N (zz39_a19 rec) N n0 t4 leq5 z9 x10 y11
def zz39_l16 (N : Nat) (k : Int → Y2 → Y5 → Int → Z2) : Nat → Int → Y2 → Y5 → Int → Int → Z2
  | 0, _, _, _, _, _ => none
  | m + 1, n0, t4, leq5, z9, x10 => zz39_b16 (zz39_F19 N (zz39_l16 N k m) k) k n0 t4 leq5 z9 x10
def zz39_F16 (N : Nat) (rec : Int → Y2 → Y5 → Int → Z2) (k : Int → Y2 → Y5 → Z2) (n0 : Int) (t4 : Y2) (leq5 : Y5) (z9 x10 : Int) : Z2 := zz39_l16 N (zz39_a16 rec) N n0 t4 leq5 z9 x10
def zz39_l28 (N : Nat) (k : Int → Y2 → Y5 → Y2 → Int → Y4 → Z2) : Nat → Int → Y2 → Y5 → Y2 → Int → Y4 → Int → Z2
  | 0, _, _, _, _, _, _, _ => none
  | m + 1, n0, t4, leq5, p12, y13, below14, x15 => zz39_b28 (zz39_l28 N k m) k n0 t4 leq5 p12 y13 below14 x15
def zz39_F28 (N : Nat) (rec : Int → Y2 → Y5 → Y2 → Int → Z2) (k : Y2 → Y2 → Z2) (n0 : Int) (t4 : Y2) (leq5 : Y5) (p12 : Y2) (y13 : Int) (below14 : Y4) (x15 : Int) : Z2 := zz39_l28 N (zz39_a28 rec) N n0 t4 leq5 p12 y13 below14 x15
def zz39_l3 (N : Nat) (k : Int → Z12 → Y2 → Y5 → Z2) : Nat → Int → Z12 → Y2 → Y5 → Int → Z2
  | 0, _, _, _, _, _ => none
  | m + 1, n0, pairs1, t4, leq5, x6 => zz39_b3 (zz39_l3 N k m) k n0 pairs1 t4 leq5 x6
def zz39_l9 (N : Nat) (k : Int → Y2 → Y5 → Z2) : Nat → Int → Z12 → Y2 → Y5 → Int → Z2
  | 0, _, _, _, _, _ => none
  | m + 1, n0, pairs1, t4, leq5, i8 => zz39_b9 (zz39_l9 N k m) k n0 pairs1 t4 leq5 i8
def zz39_l13 (N : Nat) (k : Int → Y2 → Y5 → Z2) : Nat → Int → Y2 → Y5 → Int → Z2
  | 0, _, _, _, _ => none
  | m + 1, n0, t4, leq5, z9 => zz39_b13 (zz39_F16 N (zz39_l13 N k m) k) k n0 t4 leq5 z9
def zz39_l24 (N : Nat) (k : Y2 → Y2 → Z2) : Nat → Int → Y2 → Y5 → Y2 → Int → Z2
  | 0, _, _, _, _, _ => none
  | m + 1, n0, t4, leq5, p12, y13 => zz39_b24 (zz39_F28 N (zz39_l24 N k m) k) k n0 t4 leq5 p12 y13
def zz39_F24 (N : Nat) (n0 : Int) (t4 : Y2) (leq5 : Y5) (p12 : Y2) (y13 : Int) : Z2 := zz39_l24 N (zz39_a24) N n0 t4 leq5 p12 y13
def zz39_F13 (N : Nat) (n0 : Int) (t4 : Y2) (leq5 : Y5) (z9 : Int) : Z2 := zz39_l13 N (zz39_a13 (zz39_F24 N)) N n0 t4 leq5 z9
def zz39_F9 (N : Nat) (n0 : Int) (pairs1 : Z12) (t4 : Y2) (leq5 : Y5) (i8 : Int) : Z2 := zz39_l9 N (zz39_a9 (zz39_F13 N)) N n0 pairs1 t4 leq5 i8
def zz39_F3 (N : Nat) (n0 : Int) (pairs1 : Z12) (t4 : Y2) (leq5 : Y5) (x6 : Int) : Z2 := zz39_l3 N (zz39_a3 (zz39_F9 N)) N n0 pairs1 t4 leq5 x6
def zz39 (N : Nat) (n_0 : Int) (pairs_1 : Z12) : Z2 := zz39_s (zz39_F3 N) n_0 pairs_1
def S_zz39 : Sig := { a := (.pair I (.pair (.sl (.pair I (.pair I .unit))) .unit)), md := [0, 0], mf := [], m := .unit, r := (.pair (.sl (.sl I)) .unit), rf := (.p (.o (.o .i)) .i), f := fun x => zz39 big x.1 x.2.1 }
def A_zz39 : Cfg := mkCfg tab [] [(6, [.as I .i, .as (.sl (.pair I (.pair I .unit))) .i, .drop, .drop, .as (.ptr (.pair (.sl (.sl I)) .unit)) (.o (.p (.o (.o .i)) .i)), .as (.sl (.sl .bool)) (.o (.o .i)), .as I .i]), (17, [.as I .i, .as (.sl (.pair I (.pair I .unit))) .i, .drop, .drop, .as (.ptr (.pair (.sl (.sl I)) .unit)) (.o (.p (.o (.o .i)) .i)), .as (.sl (.sl .bool)) (.o (.o .i))]), (18, [.as I .i, .as (.sl (.pair I (.pair I .unit))) .i, .drop, .drop, .as (.ptr (.pair (.sl (.sl I)) .unit)) (.o (.p (.o (.o .i)) .i)), .as (.sl (.sl .bool)) (.o (.o .i)), .drop, .drop, .as I .i]), (25, [.as I .i, .drop, .drop, .drop, .as (.ptr (.pair (.sl (.sl I)) .unit)) (.o (.p (.o (.o .i)) .i)), .as (.sl (.sl .bool)) (.o (.o .i))]), (26, [.as I .i, .drop, .drop, .drop, .as (.ptr (.pair (.sl (.sl I)) .unit)) (.o (.p (.o (.o .i)) .i)), .as (.sl (.sl .bool)) (.o (.o .i)), .drop, .drop, .drop, .as I .i]), (32, [.as I .i, .drop, .drop, .drop, .as (.ptr (.pair (.sl (.sl I)) .unit)) (.o (.p (.o (.o .i)) .i)), .as (.sl (.sl .bool)) (.o (.o .i)), .drop, .drop, .drop, .as I .i, .as I .i]), (45, [.as I .i, .drop, .drop, .drop, .as (.ptr (.pair (.sl (.sl I)) .unit)) (.o (.p (.o (.o .i)) .i)), .as (.sl (.sl .bool)) (.o (.o .i))]), (48, [.as I .i, .drop, .drop, .drop, .as (.ptr (.pair (.sl (.sl I)) .unit)) (.o (.p (.o (.o .i)) .i)), .as (.sl (.sl .bool)) (.o (.o .i)), .drop, .drop, .drop, .drop, .drop, .drop, .as (.ptr (.pair (.sl (.sl I)) .unit)) (.o (.p (.o (.o .i)) .i)), .as I .i]), (38, [.as I .i, .drop, .drop, .drop, .as (.ptr (.pair (.sl (.sl I)) .unit)) (.o (.p (.o (.o .i)) .i)), .as (.sl (.sl .bool)) (.o (.o .i)), .drop, .drop, .drop, .as I .i, .as I .i, .as I .i]), (29, [.as I .i, .drop, .drop, .drop, .as (.ptr (.pair (.sl (.sl I)) .unit)) (.o (.p (.o (.o .i)) .i)), .as (.sl (.sl .bool)) (.o (.o .i)), .drop, .drop, .drop, .as I .i]), (56, [.as I .i, .drop, .drop, .drop, .as (.ptr (.pair (.sl (.sl I)) .unit)) (.o (.p (.o (.o .i)) .i)), .as (.sl (.sl .bool)) (.o (.o .i)), .drop, .drop, .drop, .drop, .drop, .drop, .as (.ptr (.pair (.sl (.sl I)) .unit)) (.o (.p (.o (.o .i)) .i)), .as I .i, .as (.sl I) (.o .i), .as I .i]), (67, [.drop, .drop, .drop, .drop, .as (.ptr (.pair (.sl (.sl I)) .unit)) (.o (.p (.o (.o .i)) .i)), .drop, .drop, .drop, .drop, .drop, .drop, .drop, .as (.ptr (.pair (.sl (.sl I)) .unit)) (.o (.p (.o (.o .i)) .i))]), (35, [.as I .i, .drop, .drop, .drop, .as (.ptr (.pair (.sl (.sl I)) .unit)) (.o (.p (.o (.o .i)) .i)), .as (.sl (.sl .bool)) (.o (.o .i)), .drop, .drop, .drop, .as I .i, .as I .i]), (65, [.as I .i, .drop, .drop, .drop, .as (.ptr (.pair (.sl (.sl I)) .unit)) (.o (.p (.o (.o .i)) .i)), .as (.sl (.sl .bool)) (.o (.o .i)), .drop, .drop, .drop, .drop, .drop, .drop, .as (.ptr (.pair (.sl (.sl I)) .unit)) (.o (.p (.o (.o .i)) .i)), .as I .i, .as (.sl I) (.o .i)])]
noncomputable def zz39_R3 (N n : Nat) (K : Ex → St → Z2) (n0 : Int) (pairs1 : Z12) (t4 : Y2) (leq5 : Y5) (x6 : Int) : Z2 := iter ((A_zz39).shape 6) (run (A_zz39) N (codeAt Try.f98 [1, 1, 0, 1, 0, 0])) n ([.val I .i n0, .val (.sl (.pair I (.pair I .unit))) .i pairs1, .u, .u, .val (.ptr (.pair (.sl (.sl I)) .unit)) (.o (.p (.o (.o .i)) .i)) t4, .val (.sl (.sl .bool)) (.o (.o .i)) leq5, .val I .i x6] ++ List.replicate 121 .u) K
noncomputable def zz39_R9 (N n : Nat) (K : Ex → St → Z2) (n0 : Int) (pairs1 : Z12) (t4 : Y2) (leq5 : Y5) (i8 : Int) : Z2 := iter ((A_zz39).shape 18) (run (A_zz39) N (codeAt Try.f98 [1, 1, 1, 0, 1, 0, 0])) n ([.val I .i n0, .val (.sl (.pair I (.pair I .unit))) .i pairs1, .u, .u, .val (.ptr (.pair (.sl (.sl I)) .unit)) (.o (.p (.o (.o .i)) .i)) t4, .val (.sl (.sl .bool)) (.o (.o .i)) leq5, .u, .u, .val I .i i8] ++ List.replicate 119 .u) K
noncomputable def zz39_R13 (N n : Nat) (K : Ex → St → Z2) (n0 : Int) (t4 : Y2) (leq5 : Y5) (z9 : Int) : Z2 := iter ((A_zz39).shape 26) (run (A_zz39) N (codeAt Try.f98 [1, 1, 1, 1, 0, 1, 0, 0])) n ([.val I .i n0, .u, .u, .u, .val (.ptr (.pair (.sl (.sl I)) .unit)) (.o (.p (.o (.o .i)) .i)) t4, .val (.sl (.sl .bool)) (.o (.o .i)) leq5, .u, .u, .u, .val I .i z9] ++ List.replicate 118 .u) K
noncomputable def zz39_R16 (N n : Nat) (K : Ex → St → Z2) (n0 : Int) (t4 : Y2) (leq5 : Y5) (z9 x10 : Int) : Z2 := iter ((A_zz39).shape 32) (run (A_zz39) N (codeAt Try.f98 [1, 1, 1, 1, 0, 1, 0, 0, 1, 0, 0, 1, 0, 0])) n ([.val I .i n0, .u, .u, .u, .val (.ptr (.pair (.sl (.sl I)) .unit)) (.o (.p (.o (.o .i)) .i)) t4, .val (.sl (.sl .bool)) (.o (.o .i)) leq5, .u, .u, .u, .val I .i z9, .val I .i x10] ++ List.replicate 117 .u) K
noncomputable def zz39_R24 (N n : Nat) (K : Ex → St → Z2) (n0 : Int) (t4 : Y2) (leq5 : Y5) (p12 : Y2) (y13 : Int) : Z2 := iter ((A_zz39).shape 48) (run (A_zz39) N (codeAt Try.f98 [1, 1, 1, 1, 1, 1, 0, 1, 0, 0])) n ([.val I .i n0, .u, .u, .u, .val (.ptr (.pair (.sl (.sl I)) .unit)) (.o (.p (.o (.o .i)) .i)) t4, .val (.sl (.sl .bool)) (.o (.o .i)) leq5, .u, .u, .u, .u, .u, .u, .val (.ptr (.pair (.sl (.sl I)) .unit)) (.o (.p (.o (.o .i)) .i)) p12, .val I .i y13] ++ List.replicate 114 .u) K
noncomputable def zz39_R19 (N n : Nat) (K : Ex → St → Z2) (n0 : Int) (t4 : Y2) (leq5 : Y5) (z9 x10 y11 : Int) : Z2 := iter ((A_zz39).shape 38) (run (A_zz39) N (codeAt Try.f98 [1, 1, 1, 1, 0, 1, 0, 0, 1, 0, 0, 1, 0, 0, 1, 0, 0, 1, 0, 0])) n ([.val I .i n0, .u, .u, .u, .val (.ptr (.pair (.sl (.sl I)) .unit)) (.o (.p (.o (.o .i)) .i)) t4, .val (.sl (.sl .bool)) (.o (.o .i)) leq5, .u, .u, .u, .val I .i z9, .val I .i x10, .val I .i y11] ++ List.replicate 116 .u) K
noncomputable def zz39_R28 (N n : Nat) (K : Ex → St → Z2) (n0 : Int) (t4 : Y2) (leq5 : Y5) (p12 : Y2) (y13 : Int) (below14 : Y4) (x15 : Int) : Z2 := iter ((A_zz39).shape 56) (run (A_zz39) N (codeAt Try.f98 [1, 1, 1, 1, 1, 1, 0, 1, 0, 0, 1, 0, 0, 1, 0, 1, 0, 0])) n ([.val I .i n0, .u, .u, .u, .val (.ptr (.pair (.sl (.sl I)) .unit)) (.o (.p (.o (.o .i)) .i)) t4, .val (.sl (.sl .bool)) (.o (.o .i)) leq5, .u, .u, .u, .u, .u, .u, .val (.ptr (.pair (.sl (.sl I)) .unit)) (.o (.p (.o (.o .i)) .i)) p12, .val I .i y13, .val (.sl I) (.o .i) below14, .val I .i x15] ++ List.replicate 112 .u) K
noncomputable abbrev zz39_z : Ex → St → Z2 := finish (A_zz39) S_zz39 Try.f98.results.toList
noncomputable abbrev zz39_X3 (kX : St → Z2) : Int → Z12 → Y2 → Y5 → Z2 := fun (n0 : Int) (pairs1 : Z12) (t4 : Y2) (leq5 : Y5) => kX ([.val I .i n0, .val (.sl (.pair I (.pair I .unit))) .i pairs1, .u, .u, .val (.ptr (.pair (.sl (.sl I)) .unit)) (.o (.p (.o (.o .i)) .i)) t4, .val (.sl (.sl .bool)) (.o (.o .i)) leq5] ++ List.replicate 122 .u)
noncomputable abbrev zz39_E3 (kX : St → Z2) (kO : Nat → St → Z2) : Ex → St → Z2 := exK zz39_z 0 ((A_zz39).shape 17) kX kO
noncomputable abbrev zz39_X9 (kX : St → Z2) : Int → Y2 → Y5 → Z2 := fun (n0 : Int) (t4 : Y2) (leq5 : Y5) => kX ([.val I .i n0, .u, .u, .u, .val (.ptr (.pair (.sl (.sl I)) .unit)) (.o (.p (.o (.o .i)) .i)) t4, .val (.sl (.sl .bool)) (.o (.o .i)) leq5] ++ List.replicate 122 .u)
noncomputable abbrev zz39_E9 (kX : St → Z2) (kO : Nat → St → Z2) : Ex → St → Z2 := exK zz39_z 2 ((A_zz39).shape 25) kX kO
noncomputable abbrev zz39_X13 (kX : St → Z2) : Int → Y2 → Y5 → Z2 := fun (n0 : Int) (t4 : Y2) (leq5 : Y5) => kX ([.val I .i n0, .u, .u, .u, .val (.ptr (.pair (.sl (.sl I)) .unit)) (.o (.p (.o (.o .i)) .i)) t4, .val (.sl (.sl .bool)) (.o (.o .i)) leq5] ++ List.replicate 122 .u)
noncomputable abbrev zz39_E13 (kX : St → Z2) (kO : Nat → St → Z2) : Ex → St → Z2 := exK zz39_z 4 ((A_zz39).shape 45) kX kO
noncomputable abbrev zz39_X16 (kX : St → Z2) : Int → Y2 → Y5 → Int → Z2 := fun (n0 : Int) (t4 : Y2) (leq5 : Y5) (z9 : Int) => kX ([.val I .i n0, .u, .u, .u, .val (.ptr (.pair (.sl (.sl I)) .unit)) (.o (.p (.o (.o .i)) .i)) t4, .val (.sl (.sl .bool)) (.o (.o .i)) leq5, .u, .u, .u, .val I .i z9] ++ List.replicate 118 .u)
noncomputable abbrev zz39_E16 (kX : St → Z2) (kO : Nat → St → Z2) : Ex → St → Z2 := exK zz39_z 6 ((A_zz39).shape 29) kX kO
noncomputable abbrev zz39_X24 (kX : St → Z2) : Y2 → Y2 → Z2 := fun (t4 p12 : Y2) => kX ([.u, .u, .u, .u, .val (.ptr (.pair (.sl (.sl I)) .unit)) (.o (.p (.o (.o .i)) .i)) t4, .u, .u, .u, .u, .u, .u, .u, .val (.ptr (.pair (.sl (.sl I)) .unit)) (.o (.p (.o (.o .i)) .i)) p12] ++ List.replicate 115 .u)
noncomputable abbrev zz39_E24 (kX : St → Z2) (kO : Nat → St → Z2) : Ex → St → Z2 := exK zz39_z 10 ((A_zz39).shape 67) kX kO
noncomputable abbrev zz39_X19 (kX : St → Z2) : Int → Y2 → Y5 → Int → Int → Z2 := fun (n0 : Int) (t4 : Y2) (leq5 : Y5) (z9 x10 : Int) => kX ([.val I .i n0, .u, .u, .u, .val (.ptr (.pair (.sl (.sl I)) .unit)) (.o (.p (.o (.o .i)) .i)) t4, .val (.sl (.sl .bool)) (.o (.o .i)) leq5, .u, .u, .u, .val I .i z9, .val I .i x10] ++ List.replicate 117 .u)
noncomputable abbrev zz39_E19 (kX : St → Z2) (kO : Nat → St → Z2) : Ex → St → Z2 := exK zz39_z 8 ((A_zz39).shape 35) kX kO
noncomputable abbrev zz39_X28 (kX : St → Z2) : Int → Y2 → Y5 → Y2 → Int → Y4 → Z2 := fun (n0 : Int) (t4 : Y2) (leq5 : Y5) (p12 : Y2) (y13 : Int) (below14 : Y4) => kX ([.val I .i n0, .u, .u, .u, .val (.ptr (.pair (.sl (.sl I)) .unit)) (.o (.p (.o (.o .i)) .i)) t4, .val (.sl (.sl .bool)) (.o (.o .i)) leq5, .u, .u, .u, .u, .u, .u, .val (.ptr (.pair (.sl (.sl I)) .unit)) (.o (.p (.o (.o .i)) .i)) p12, .val I .i y13, .val (.sl I) (.o .i) below14] ++ List.replicate 113 .u)
noncomputable abbrev zz39_E28 (kX : St → Z2) (kO : Nat → St → Z2) : Ex → St → Z2 := exK zz39_z 12 ((A_zz39).shape 65) kX kO
theorem zz39_step3 (N m : Nat) (kX : St → Z2) (kO : Nat → St → Z2) (n0 : Int) (pairs1 : Z12) (t4 : Y2) (leq5 : Y5) (x6 : Int) : zz39_R3 N (m + 1) (zz39_E3 kX kO) n0 pairs1 t4 leq5 x6 = zz39_b3 (zz39_R3 N m (zz39_E3 kX kO)) (zz39_X3 kX) n0 pairs1 t4 leq5 x6 := by kernel_rfl
theorem zz39_iter3 (N : Nat) (kX : St → Z2) (kO : Nat → St → Z2) : ∀ (n : Nat) (n0 : Int) (pairs1 : Z12) (t4 : Y2) (leq5 : Y5) (x6 : Int), zz39_R3 N n (zz39_E3 kX kO) n0 pairs1 t4 leq5 x6 = zz39_l3 N (zz39_X3 kX) n n0 pairs1 t4 leq5 x6
  | 0, _, _, _, _, _ => rfl
  | m + 1, n0, pairs1, t4, leq5, x6 => by
    have hrec : zz39_R3 N m (zz39_E3 kX kO) = (zz39_l3 N (zz39_X3 kX) m) := (funext fun n0 => (funext fun pairs1 => (funext fun t4 => (funext fun leq5 => (funext fun x6 => zz39_iter3 N kX kO m n0 pairs1 t4 leq5 x6)))))
    refine (zz39_step3 N m kX kO n0 pairs1 t4 leq5 x6).trans ?_
    rw [hrec]
    rfl
noncomputable abbrev zz39_K3 (N : Nat) : Ex → St → Z2 := (blockK 0 (seqK ((A_zz39).shape 17) (gated ((A_zz39).shape 500008).isSome N (run (A_zz39) N (codeAt Try.f98 [1, 1, 1]))) zz39_z))
theorem zz39_step9 (N m : Nat) (kX : St → Z2) (kO : Nat → St → Z2) (n0 : Int) (pairs1 : Z12) (t4 : Y2) (leq5 : Y5) (i8 : Int) : zz39_R9 N (m + 1) (zz39_E9 kX kO) n0 pairs1 t4 leq5 i8 = zz39_b9 (zz39_R9 N m (zz39_E9 kX kO)) (zz39_X9 kX) n0 pairs1 t4 leq5 i8 := by kernel_rfl
theorem zz39_iter9 (N : Nat) (kX : St → Z2) (kO : Nat → St → Z2) : ∀ (n : Nat) (n0 : Int) (pairs1 : Z12) (t4 : Y2) (leq5 : Y5) (i8 : Int), zz39_R9 N n (zz39_E9 kX kO) n0 pairs1 t4 leq5 i8 = zz39_l9 N (zz39_X9 kX) n n0 pairs1 t4 leq5 i8
  | 0, _, _, _, _, _ => rfl
  | m + 1, n0, pairs1, t4, leq5, i8 => by
    have hrec : zz39_R9 N m (zz39_E9 kX kO) = (zz39_l9 N (zz39_X9 kX) m) := (funext fun n0 => (funext fun pairs1 => (funext fun t4 => (funext fun leq5 => (funext fun i8 => zz39_iter9 N kX kO m n0 pairs1 t4 leq5 i8)))))
    refine (zz39_step9 N m kX kO n0 pairs1 t4 leq5 i8).trans ?_
    rw [hrec]
    rfl
noncomputable abbrev zz39_K9 (N : Nat) : Ex → St → Z2 := (blockK 2 (seqK ((A_zz39).shape 25) (gated ((A_zz39).shape 500012).isSome N (run (A_zz39) N (codeAt Try.f98 [1, 1, 1, 1]))) zz39_z))
theorem zz39_step19 (N m : Nat) (kX : St → Z2) (kO : Nat → St → Z2) (n0 : Int) (t4 : Y2) (leq5 : Y5) (z9 x10 y11 : Int) : zz39_R19 N (m + 1) (zz39_E19 kX kO) n0 t4 leq5 z9 x10 y11 = zz39_b19 (zz39_R19 N m (zz39_E19 kX kO)) (zz39_X19 kX) n0 t4 leq5 z9 x10 y11 := by kernel_rfl
theorem zz39_iter19 (N : Nat) (kX : St → Z2) (kO : Nat → St → Z2) : ∀ (n : Nat) (n0 : Int) (t4 : Y2) (leq5 : Y5) (z9 x10 y11 : Int), zz39_R19 N n (zz39_E19 kX kO) n0 t4 leq5 z9 x10 y11 = zz39_l19 N (zz39_X19 kX) n n0 t4 leq5 z9 x10 y11
  | 0, _, _, _, _, _, _ => rfl
  | m + 1, n0, t4, leq5, z9, x10, y11 => by
    have hrec : zz39_R19 N m (zz39_E19 kX kO) = (zz39_l19 N (zz39_X19 kX) m) := (funext fun n0 => (funext fun t4 => (funext fun leq5 => (funext fun z9 => (funext fun x10 => (funext fun y11 => zz39_iter19 N kX kO m n0 t4 leq5 z9 x10 y11))))))
    refine (zz39_step19 N m kX kO n0 t4 leq5 z9 x10 y11).trans ?_
    rw [hrec]
    rfl
noncomputable abbrev zz39_K19 (N m : Nat) (kX : St → Z2) (kO : Nat → St → Z2) : Ex → St → Z2 := (blockK 8 (blockK 7 (seqK ((A_zz39).shape 35) (gated ((A_zz39).shape 500017).isSome N (run (A_zz39) N (codeAt Try.f98 [1, 1, 1, 1, 0, 1, 0, 0, 1, 0, 0, 1, 0, 0, 1, 1]))) (iterK ((A_zz39).shape 32) (run (A_zz39) N (codeAt Try.f98 [1, 1, 1, 1, 0, 1, 0, 0, 1, 0, 0, 1, 0, 0])) m (zz39_E16 kX kO)))))
noncomputable abbrev zz39_k19 (N m : Nat) (kX : St → Z2) (kO : Nat → St → Z2) : St → Z2 := fun st' => run (A_zz39) N (codeAt Try.f98 [1, 1, 1, 1, 0, 1, 0, 0, 1, 0, 0, 1, 0, 0, 1, 1]) st' (iterK ((A_zz39).shape 32) (run (A_zz39) N (codeAt Try.f98 [1, 1, 1, 1, 0, 1, 0, 0, 1, 0, 0, 1, 0, 0])) m (zz39_E16 kX kO))
theorem zz39_after19 (N m : Nat) (kX : St → Z2) (kO : Nat → St → Z2) (n0 : Int) (t4 : Y2) (leq5 : Y5) (z9 x10 : Int) : zz39_X19 (zz39_k19 N m kX kO) n0 t4 leq5 z9 x10 = zz39_a19 (zz39_R16 N m (zz39_E16 kX kO)) n0 t4 leq5 z9 x10 := by kernel_rfl
theorem zz39_in19 (N m : Nat) (kX : St → Z2) (kO : Nat → St → Z2) (recF : Int → Y2 → Y5 → Int → Int → Z2) (hrec : zz39_R16 N m (zz39_E16 kX kO) = recF) (n0 : Int) (t4 : Y2) (leq5 : Y5) (z9 x10 y11 : Int) : zz39_R19 N N (zz39_K19 N m kX kO) n0 t4 leq5 z9 x10 y11 = zz39_F19 N recF (zz39_X16 kX) n0 t4 leq5 z9 x10 y11 :=
  have h : zz39_X19 (zz39_k19 N m kX kO) = (zz39_a19 recF) := (funext fun n0 => (funext fun t4 => (funext fun leq5 => (funext fun z9 => (funext fun x10 => (zz39_after19 N m kX kO n0 t4 leq5 z9 x10).trans (by rw [hrec]))))))
  ((iter_ex (fun st => by kernel_rfl) (fun st => by kernel_rfl)).trans (zz39_iter19 N (zz39_k19 N m kX kO) (fun j st => (zz39_K19 N m kX kO) (.exit j) st) N n0 t4 leq5 z9 x10 y11)).trans (congrArg (fun k => zz39_l19 N k N n0 t4 leq5 z9 x10 y11) h)
theorem zz39_step16 (N m : Nat) (kX : St → Z2) (kO : Nat → St → Z2) (n0 : Int) (t4 : Y2) (leq5 : Y5) (z9 x10 : Int) : zz39_R16 N (m + 1) (zz39_E16 kX kO) n0 t4 leq5 z9 x10 = zz39_b16 (zz39_R19 N N (zz39_K19 N m kX kO)) (zz39_X16 kX) n0 t4 leq5 z9 x10 := by kernel_rfl
theorem zz39_iter16 (N : Nat) (kX : St → Z2) (kO : Nat → St → Z2) : ∀ (n : Nat) (n0 : Int) (t4 : Y2) (leq5 : Y5) (z9 x10 : Int), zz39_R16 N n (zz39_E16 kX kO) n0 t4 leq5 z9 x10 = zz39_l16 N (zz39_X16 kX) n n0 t4 leq5 z9 x10
  | 0, _, _, _, _, _ => rfl
  | m + 1, n0, t4, leq5, z9, x10 => by
    have hrec : zz39_R16 N m (zz39_E16 kX kO) = (zz39_l16 N (zz39_X16 kX) m) := (funext fun n0 => (funext fun t4 => (funext fun leq5 => (funext fun z9 => (funext fun x10 => zz39_iter16 N kX kO m n0 t4 leq5 z9 x10)))))
    refine (zz39_step16 N m kX kO n0 t4 leq5 z9 x10).trans ?_
    rw [(funext fun n0 => (funext fun t4 => (funext fun leq5 => (funext fun z9 => (funext fun x10 => (funext fun y11 => zz39_in19 N m kX kO (zz39_l16 N (zz39_X16 kX) m) hrec n0 t4 leq5 z9 x10 y11))))))]
    rfl
noncomputable abbrev zz39_K16 (N m : Nat) (kX : St → Z2) (kO : Nat → St → Z2) : Ex → St → Z2 := (blockK 6 (blockK 5 (seqK ((A_zz39).shape 29) (gated ((A_zz39).shape 500014).isSome N (run (A_zz39) N (codeAt Try.f98 [1, 1, 1, 1, 0, 1, 0, 0, 1, 1]))) (iterK ((A_zz39).shape 26) (run (A_zz39) N (codeAt Try.f98 [1, 1, 1, 1, 0, 1, 0, 0])) m (zz39_E13 kX kO)))))
noncomputable abbrev zz39_k16 (N m : Nat) (kX : St → Z2) (kO : Nat → St → Z2) : St → Z2 := fun st' => run (A_zz39) N (codeAt Try.f98 [1, 1, 1, 1, 0, 1, 0, 0, 1, 1]) st' (iterK ((A_zz39).shape 26) (run (A_zz39) N (codeAt Try.f98 [1, 1, 1, 1, 0, 1, 0, 0])) m (zz39_E13 kX kO))
theorem zz39_after16 (N m : Nat) (kX : St → Z2) (kO : Nat → St → Z2) (n0 : Int) (t4 : Y2) (leq5 : Y5) (z9 : Int) : zz39_X16 (zz39_k16 N m kX kO) n0 t4 leq5 z9 = zz39_a16 (zz39_R13 N m (zz39_E13 kX kO)) n0 t4 leq5 z9 := by kernel_rfl
theorem zz39_in16 (N m : Nat) (kX : St → Z2) (kO : Nat → St → Z2) (recF : Int → Y2 → Y5 → Int → Z2) (hrec : zz39_R13 N m (zz39_E13 kX kO) = recF) (n0 : Int) (t4 : Y2) (leq5 : Y5) (z9 x10 : Int) : zz39_R16 N N (zz39_K16 N m kX kO) n0 t4 leq5 z9 x10 = zz39_F16 N recF (zz39_X13 kX) n0 t4 leq5 z9 x10 :=
  have h : zz39_X16 (zz39_k16 N m kX kO) = (zz39_a16 recF) := (funext fun n0 => (funext fun t4 => (funext fun leq5 => (funext fun z9 => (zz39_after16 N m kX kO n0 t4 leq5 z9).trans (by rw [hrec])))))
  ((iter_ex (fun st => by kernel_rfl) (fun st => by kernel_rfl)).trans (zz39_iter16 N (zz39_k16 N m kX kO) (fun j st => (zz39_K16 N m kX kO) (.exit j) st) N n0 t4 leq5 z9 x10)).trans (congrArg (fun k => zz39_l16 N k N n0 t4 leq5 z9 x10) h)
theorem zz39_step13 (N m : Nat) (kX : St → Z2) (kO : Nat → St → Z2) (n0 : Int) (t4 : Y2) (leq5 : Y5) (z9 : Int) : zz39_R13 N (m + 1) (zz39_E13 kX kO) n0 t4 leq5 z9 = zz39_b13 (zz39_R16 N N (zz39_K16 N m kX kO)) (zz39_X13 kX) n0 t4 leq5 z9 := by kernel_rfl
theorem zz39_iter13 (N : Nat) (kX : St → Z2) (kO : Nat → St → Z2) : ∀ (n : Nat) (n0 : Int) (t4 : Y2) (leq5 : Y5) (z9 : Int), zz39_R13 N n (zz39_E13 kX kO) n0 t4 leq5 z9 = zz39_l13 N (zz39_X13 kX) n n0 t4 leq5 z9
  | 0, _, _, _, _ => rfl
  | m + 1, n0, t4, leq5, z9 => by
    have hrec : zz39_R13 N m (zz39_E13 kX kO) = (zz39_l13 N (zz39_X13 kX) m) := (funext fun n0 => (funext fun t4 => (funext fun leq5 => (funext fun z9 => zz39_iter13 N kX kO m n0 t4 leq5 z9))))
    refine (zz39_step13 N m kX kO n0 t4 leq5 z9).trans ?_
    rw [(funext fun n0 => (funext fun t4 => (funext fun leq5 => (funext fun z9 => (funext fun x10 => zz39_in16 N m kX kO (zz39_l13 N (zz39_X13 kX) m) hrec n0 t4 leq5 z9 x10)))))]
    rfl
noncomputable abbrev zz39_K13 (N : Nat) : Ex → St → Z2 := (blockK 4 (seqK ((A_zz39).shape 45) (gated ((A_zz39).shape 500022).isSome N (run (A_zz39) N (codeAt Try.f98 [1, 1, 1, 1, 1]))) zz39_z))
theorem zz39_step28 (N m : Nat) (kX : St → Z2) (kO : Nat → St → Z2) (n0 : Int) (t4 : Y2) (leq5 : Y5) (p12 : Y2) (y13 : Int) (below14 : Y4) (x15 : Int) : zz39_R28 N (m + 1) (zz39_E28 kX kO) n0 t4 leq5 p12 y13 below14 x15 = zz39_b28 (zz39_R28 N m (zz39_E28 kX kO)) (zz39_X28 kX) n0 t4 leq5 p12 y13 below14 x15 := by kernel_rfl
theorem zz39_iter28 (N : Nat) (kX : St → Z2) (kO : Nat → St → Z2) : ∀ (n : Nat) (n0 : Int) (t4 : Y2) (leq5 : Y5) (p12 : Y2) (y13 : Int) (below14 : Y4) (x15 : Int), zz39_R28 N n (zz39_E28 kX kO) n0 t4 leq5 p12 y13 below14 x15 = zz39_l28 N (zz39_X28 kX) n n0 t4 leq5 p12 y13 below14 x15
  | 0, _, _, _, _, _, _, _ => rfl
  | m + 1, n0, t4, leq5, p12, y13, below14, x15 => by
    have hrec : zz39_R28 N m (zz39_E28 kX kO) = (zz39_l28 N (zz39_X28 kX) m) := (funext fun n0 => (funext fun t4 => (funext fun leq5 => (funext fun p12 => (funext fun y13 => (funext fun below14 => (funext fun x15 => zz39_iter28 N kX kO m n0 t4 leq5 p12 y13 below14 x15)))))))
    refine (zz39_step28 N m kX kO n0 t4 leq5 p12 y13 below14 x15).trans ?_
    rw [hrec]
    rfl
noncomputable abbrev zz39_K28 (N m : Nat) (kX : St → Z2) (kO : Nat → St → Z2) : Ex → St → Z2 := (blockK 12 (seqK ((A_zz39).shape 65) (gated ((A_zz39).shape 500032).isSome N (run (A_zz39) N (codeAt Try.f98 [1, 1, 1, 1, 1, 1, 0, 1, 0, 0, 1, 0, 0, 1, 1]))) (blockK 11 (seqK ((A_zz39).shape 51) (gated ((A_zz39).shape 500025).isSome N (run (A_zz39) N (codeAt Try.f98 [1, 1, 1, 1, 1, 1, 0, 1, 0, 0, 1, 1]))) (iterK ((A_zz39).shape 48) (run (A_zz39) N (codeAt Try.f98 [1, 1, 1, 1, 1, 1, 0, 1, 0, 0])) m (zz39_E24 kX kO))))))
noncomputable abbrev zz39_k28 (N m : Nat) (kX : St → Z2) (kO : Nat → St → Z2) : St → Z2 := fun st' => run (A_zz39) N (codeAt Try.f98 [1, 1, 1, 1, 1, 1, 0, 1, 0, 0, 1, 0, 0, 1, 1]) st' (blockK 11 (seqK ((A_zz39).shape 51) (gated ((A_zz39).shape 500025).isSome N (run (A_zz39) N (codeAt Try.f98 [1, 1, 1, 1, 1, 1, 0, 1, 0, 0, 1, 1]))) (iterK ((A_zz39).shape 48) (run (A_zz39) N (codeAt Try.f98 [1, 1, 1, 1, 1, 1, 0, 1, 0, 0])) m (zz39_E24 kX kO))))
theorem zz39_after28 (N m : Nat) (kX : St → Z2) (kO : Nat → St → Z2) (n0 : Int) (t4 : Y2) (leq5 : Y5) (p12 : Y2) (y13 : Int) (below14 : Y4) : zz39_X28 (zz39_k28 N m kX kO) n0 t4 leq5 p12 y13 below14 = zz39_a28 (zz39_R24 N m (zz39_E24 kX kO)) n0 t4 leq5 p12 y13 below14 := by kernel_rfl
theorem zz39_in28 (N m : Nat) (kX : St → Z2) (kO : Nat → St → Z2) (recF : Int → Y2 → Y5 → Y2 → Int → Z2) (hrec : zz39_R24 N m (zz39_E24 kX kO) = recF) (n0 : Int) (t4 : Y2) (leq5 : Y5) (p12 : Y2) (y13 : Int) (below14 : Y4) (x15 : Int) : zz39_R28 N N (zz39_K28 N m kX kO) n0 t4 leq5 p12 y13 below14 x15 = zz39_F28 N recF (zz39_X24 kX) n0 t4 leq5 p12 y13 below14 x15 :=
  have h : zz39_X28 (zz39_k28 N m kX kO) = (zz39_a28 recF) := (funext fun n0 => (funext fun t4 => (funext fun leq5 => (funext fun p12 => (funext fun y13 => (funext fun below14 => (zz39_after28 N m kX kO n0 t4 leq5 p12 y13 below14).trans (by rw [hrec])))))))
  ((iter_ex (fun st => by kernel_rfl) (fun st => by kernel_rfl)).trans (zz39_iter28 N (zz39_k28 N m kX kO) (fun j st => (zz39_K28 N m kX kO) (.exit j) st) N n0 t4 leq5 p12 y13 below14 x15)).trans (congrArg (fun k => zz39_l28 N k N n0 t4 leq5 p12 y13 below14 x15) h)
theorem zz39_step24 (N m : Nat) (kX : St → Z2) (kO : Nat → St → Z2) (n0 : Int) (t4 : Y2) (leq5 : Y5) (p12 : Y2) (y13 : Int) : zz39_R24 N (m + 1) (zz39_E24 kX kO) n0 t4 leq5 p12 y13 = zz39_b24 (zz39_R28 N N (zz39_K28 N m kX kO)) (zz39_X24 kX) n0 t4 leq5 p12 y13 := by kernel_rfl
theorem zz39_iter24 (N : Nat) (kX : St → Z2) (kO : Nat → St → Z2) : ∀ (n : Nat) (n0 : Int) (t4 : Y2) (leq5 : Y5) (p12 : Y2) (y13 : Int), zz39_R24 N n (zz39_E24 kX kO) n0 t4 leq5 p12 y13 = zz39_l24 N (zz39_X24 kX) n n0 t4 leq5 p12 y13
  | 0, _, _, _, _, _ => rfl
  | m + 1, n0, t4, leq5, p12, y13 => by
    have hrec : zz39_R24 N m (zz39_E24 kX kO) = (zz39_l24 N (zz39_X24 kX) m) := (funext fun n0 => (funext fun t4 => (funext fun leq5 => (funext fun p12 => (funext fun y13 => zz39_iter24 N kX kO m n0 t4 leq5 p12 y13)))))
    refine (zz39_step24 N m kX kO n0 t4 leq5 p12 y13).trans ?_
    rw [(funext fun n0 => (funext fun t4 => (funext fun leq5 => (funext fun p12 => (funext fun y13 => (funext fun below14 => (funext fun x15 => zz39_in28 N m kX kO (zz39_l24 N (zz39_X24 kX) m) hrec n0 t4 leq5 p12 y13 below14 x15)))))))]
    rfl
noncomputable abbrev zz39_K24 (N : Nat) : Ex → St → Z2 := (blockK 10 (seqK ((A_zz39).shape 67) (gated ((A_zz39).shape 500033).isSome N (run (A_zz39) N (codeAt Try.f98 [1, 1, 1, 1, 1, 1, 1]))) zz39_z))
noncomputable abbrev zz39_k24 (N : Nat) : St → Z2 := fun st' => run (A_zz39) N (codeAt Try.f98 [1, 1, 1, 1, 1, 1, 1]) st' zz39_z
theorem zz39_after24 (N : Nat) (t4 p12 : Y2) : zz39_X24 (zz39_k24 N) t4 p12 = zz39_a24 t4 p12 := by kernel_rfl
theorem zz39_in24 (N : Nat) (n0 : Int) (t4 : Y2) (leq5 : Y5) (p12 : Y2) (y13 : Int) : zz39_R24 N N (zz39_K24 N) n0 t4 leq5 p12 y13 = zz39_F24 N n0 t4 leq5 p12 y13 :=
  have h : zz39_X24 (zz39_k24 N) = (zz39_a24) := (funext fun t4 => (funext fun p12 => zz39_after24 N t4 p12))
  ((iter_ex (fun st => by kernel_rfl) (fun st => by kernel_rfl)).trans (zz39_iter24 N (zz39_k24 N) (fun j st => (zz39_K24 N) (.exit j) st) N n0 t4 leq5 p12 y13)).trans (congrArg (fun k => zz39_l24 N k N n0 t4 leq5 p12 y13) h)
noncomputable abbrev zz39_k13 (N : Nat) : St → Z2 := fun st' => run (A_zz39) N (codeAt Try.f98 [1, 1, 1, 1, 1]) st' zz39_z
theorem zz39_after13 (N : Nat) (n0 : Int) (t4 : Y2) (leq5 : Y5) : zz39_X13 (zz39_k13 N) n0 t4 leq5 = zz39_a13 (zz39_R24 N N (zz39_K24 N)) n0 t4 leq5 := by kernel_rfl
theorem zz39_in13 (N : Nat) (n0 : Int) (t4 : Y2) (leq5 : Y5) (z9 : Int) : zz39_R13 N N (zz39_K13 N) n0 t4 leq5 z9 = zz39_F13 N n0 t4 leq5 z9 :=
  have h : zz39_X13 (zz39_k13 N) = (zz39_a13 (zz39_F24 N)) := (funext fun n0 => (funext fun t4 => (funext fun leq5 => (zz39_after13 N n0 t4 leq5).trans (by rw [(funext fun n0 => (funext fun t4 => (funext fun leq5 => (funext fun p12 => (funext fun y13 => zz39_in24 N n0 t4 leq5 p12 y13)))))]))))
  ((iter_ex (fun st => by kernel_rfl) (fun st => by kernel_rfl)).trans (zz39_iter13 N (zz39_k13 N) (fun j st => (zz39_K13 N) (.exit j) st) N n0 t4 leq5 z9)).trans (congrArg (fun k => zz39_l13 N k N n0 t4 leq5 z9) h)
noncomputable abbrev zz39_k9 (N : Nat) : St → Z2 := fun st' => run (A_zz39) N (codeAt Try.f98 [1, 1, 1, 1]) st' zz39_z
theorem zz39_after9 (N : Nat) (n0 : Int) (t4 : Y2) (leq5 : Y5) : zz39_X9 (zz39_k9 N) n0 t4 leq5 = zz39_a9 (zz39_R13 N N (zz39_K13 N)) n0 t4 leq5 := by kernel_rfl
theorem zz39_in9 (N : Nat) (n0 : Int) (pairs1 : Z12) (t4 : Y2) (leq5 : Y5) (i8 : Int) : zz39_R9 N N (zz39_K9 N) n0 pairs1 t4 leq5 i8 = zz39_F9 N n0 pairs1 t4 leq5 i8 :=
  have h : zz39_X9 (zz39_k9 N) = (zz39_a9 (zz39_F13 N)) := (funext fun n0 => (funext fun t4 => (funext fun leq5 => (zz39_after9 N n0 t4 leq5).trans (by rw [(funext fun n0 => (funext fun t4 => (funext fun leq5 => (funext fun z9 => zz39_in13 N n0 t4 leq5 z9))))]))))
  ((iter_ex (fun st => by kernel_rfl) (fun st => by kernel_rfl)).trans (zz39_iter9 N (zz39_k9 N) (fun j st => (zz39_K9 N) (.exit j) st) N n0 pairs1 t4 leq5 i8)).trans (congrArg (fun k => zz39_l9 N k N n0 pairs1 t4 leq5 i8) h)
noncomputable abbrev zz39_k3 (N : Nat) : St → Z2 := fun st' => run (A_zz39) N (codeAt Try.f98 [1, 1, 1]) st' zz39_z
theorem zz39_after3 (N : Nat) (n0 : Int) (pairs1 : Z12) (t4 : Y2) (leq5 : Y5) : zz39_X3 (zz39_k3 N) n0 pairs1 t4 leq5 = zz39_a3 (zz39_R9 N N (zz39_K9 N)) n0 pairs1 t4 leq5 := by kernel_rfl
theorem zz39_in3 (N : Nat) (n0 : Int) (pairs1 : Z12) (t4 : Y2) (leq5 : Y5) (x6 : Int) : zz39_R3 N N (zz39_K3 N) n0 pairs1 t4 leq5 x6 = zz39_F3 N n0 pairs1 t4 leq5 x6 :=
  have h : zz39_X3 (zz39_k3 N) = (zz39_a3 (zz39_F9 N)) := (funext fun n0 => (funext fun pairs1 => (funext fun t4 => (funext fun leq5 => (zz39_after3 N n0 pairs1 t4 leq5).trans (by rw [(funext fun n0 => (funext fun pairs1 => (funext fun t4 => (funext fun leq5 => (funext fun i8 => zz39_in9 N n0 pairs1 t4 leq5 i8)))))])))))
  ((iter_ex (fun st => by kernel_rfl) (fun st => by kernel_rfl)).trans (zz39_iter3 N (zz39_k3 N) (fun j st => (zz39_K3 N) (.exit j) st) N n0 pairs1 t4 leq5 x6)).trans (congrArg (fun k => zz39_l3 N k N n0 pairs1 t4 leq5 x6) h)
theorem run0_zz39 (N : Nat) (x : (S_zz39).a.den) : runF (A_zz39) N Try.f98 S_zz39 x = (zz39_s (zz39_R3 N N (zz39_K3 N)) x.1 x.2.1) := by kernel_rfl
theorem run_zz39 (N : Nat) (x : (S_zz39).a.den) : runF (A_zz39) N Try.f98 S_zz39 x = zz39 N x.1 x.2.1 := by
  refine (run0_zz39 N x).trans ?_
  rw [(funext fun n0 => (funext fun pairs1 => (funext fun t4 => (funext fun leq5 => (funext fun x6 => zz39_in3 N n0 pairs1 t4 leq5 x6)))))]
  rfl
theorem fn_zz39 : FnOk Try.prog 98 := ⟨_, Try.func98, by kernel_rfl, by kernel_rfl⟩
theorem good_zz39 : Gx.Good Try.prog 98 S_zz39 := good_of_run Try.func98 (of_decide_eq_true (by kernel_rfl)) fun x r h => ⟨A_zz39, big, mkCfg_ok tabOk, mkCfg_sigs (show SigsOk Try.prog [] from trivial), (run_zz39 big x).trans h⟩

/-! zz40 -/
def zz40_b2 (rec k : Y4 → Int → Int → Option Z11) (l0 : Y4) (n1 k5 : Int) : Option Z11 :=
  cond (decide (k5 < (l0.length : Int)))
  ((atI l0 k5).bind fun xq1 =>
  cond (decide (xq1 < n1))
  (rec l0 n1 (IntKind.i64.wrap (k5 + (1 : Int))))
  (k l0 n1 k5))
  (k l0 n1 k5)
def zz40_a2 (l0 : Y4) (n1 k5 : Int) : Option Z11 :=
  cond (decide (k5 < (l0.length : Int)))
  ((atI l0 k5).bind fun xq2 =>
  cond (decide (xq2 = n1))
  (some (l0, (())))
  ((slI l0 0 k5).bind fun xq3 =>
  (appI [] xq3).bind fun xq4 =>
  (appI xq4 [n1]).bind fun xq5 =>
  (slI l0 k5 l0.length).bind fun xq6 =>
  (appI xq5 xq6).bind fun xq7 =>
  some (xq7, (()))))
  ((slI l0 0 k5).bind fun xq8 =>
  (appI [] xq8).bind fun xq9 =>
  (appI xq9 [n1]).bind fun xq10 =>
  (slI l0 k5 l0.length).bind fun xq11 =>
  (appI xq10 xq11).bind fun xq12 =>
  some (xq12, (())))
def zz40_s (L2 : Y4 → Int → Int → Option Z11) (l_0 : Y4) (n_1 : Int) : Option Z11 :=
  L2 l_0 n_1 (0 : Int)
def zz40_l2 (N : Nat) (k : Y4 → Int → Int → Option Z11) : Nat → Y4 → Int → Int → Option Z11
  | 0, _, _, _ => none
  | m + 1, l0, n1, k5 => zz40_b2 (zz40_l2 N k m) k l0 n1 k5
def zz40_F2 (N : Nat) (l0 : Y4) (n1 k5 : Int) : Option Z11 := zz40_l2 N (zz40_a2) N l0 n1 k5
def zz40 (N : Nat) (l_0 : Y4) (n_1 : Int) : Option Z11 := zz40_s (zz40_F2 N) l_0 n_1
def S_zz40 : Sig := { a := (.pair (.sl I) (.pair I .unit)), md := [0, 0], mf := [], m := .unit, r := (.sl I), rf := .i, f := fun x => zz40 big x.1 x.2.1 }
def A_zz40 : Cfg := mkCfg tab [] [(4, [.as (.sl I) .i, .as I .i, .drop, .drop, .drop, .as I .i]), (9, [.as (.sl I) .i, .as I .i, .drop, .drop, .drop, .as I .i])]
noncomputable def zz40_R2 (N n : Nat) (K : Ex → St → Option Z11) (l0 : Y4) (n1 k5 : Int) : Option Z11 := iter ((A_zz40).shape 4) (run (A_zz40) N (codeAt Try.f120 [1, 1, 0, 0, 0])) n ([.val (.sl I) .i l0, .val I .i n1, .u, .u, .u, .val I .i k5] ++ List.replicate 39 .u) K
noncomputable abbrev zz40_z : Ex → St → Option Z11 := finish (A_zz40) S_zz40 Try.f120.results.toList
noncomputable abbrev zz40_X2 (kX : St → Option Z11) : Y4 → Int → Int → Option Z11 := fun (l0 : Y4) (n1 k5 : Int) => kX ([.val (.sl I) .i l0, .val I .i n1, .u, .u, .u, .val I .i k5] ++ List.replicate 39 .u)
noncomputable abbrev zz40_E2 (kX : St → Option Z11) (kO : Nat → St → Option Z11) : Ex → St → Option Z11 := exK zz40_z 0 ((A_zz40).shape 9) kX kO
theorem zz40_step2 (N m : Nat) (kX : St → Option Z11) (kO : Nat → St → Option Z11) (l0 : Y4) (n1 k5 : Int) : zz40_R2 N (m + 1) (zz40_E2 kX kO) l0 n1 k5 = zz40_b2 (zz40_R2 N m (zz40_E2 kX kO)) (zz40_X2 kX) l0 n1 k5 := by kernel_rfl
theorem zz40_iter2 (N : Nat) (kX : St → Option Z11) (kO : Nat → St → Option Z11) : ∀ (n : Nat) (l0 : Y4) (n1 k5 : Int), zz40_R2 N n (zz40_E2 kX kO) l0 n1 k5 = zz40_l2 N (zz40_X2 kX) n l0 n1 k5
  | 0, _, _, _ => rfl
  | m + 1, l0, n1, k5 => by
    have hrec : zz40_R2 N m (zz40_E2 kX kO) = (zz40_l2 N (zz40_X2 kX) m) := (funext fun l0 => (funext fun n1 => (funext fun k5 => zz40_iter2 N kX kO m l0 n1 k5)))
    refine (zz40_step2 N m kX kO l0 n1 k5).trans ?_
    rw [hrec]
    rfl
noncomputable abbrev zz40_K2 (N : Nat) : Ex → St → Option Z11 := (blockK 0 (seqK ((A_zz40).shape 9) (gated ((A_zz40).shape 500004).isSome N (run (A_zz40) N (codeAt Try.f120 [1, 1, 1]))) zz40_z))
noncomputable abbrev zz40_k2 (N : Nat) : St → Option Z11 := fun st' => run (A_zz40) N (codeAt Try.f120 [1, 1, 1]) st' zz40_z
theorem zz40_after2 (N : Nat) (l0 : Y4) (n1 k5 : Int) : zz40_X2 (zz40_k2 N) l0 n1 k5 = zz40_a2 l0 n1 k5 := by kernel_rfl
theorem zz40_in2 (N : Nat) (l0 : Y4) (n1 k5 : Int) : zz40_R2 N N (zz40_K2 N) l0 n1 k5 = zz40_F2 N l0 n1 k5 :=
  have h : zz40_X2 (zz40_k2 N) = (zz40_a2) := (funext fun l0 => (funext fun n1 => (funext fun k5 => zz40_after2 N l0 n1 k5)))
  ((iter_ex (fun st => by kernel_rfl) (fun st => by kernel_rfl)).trans (zz40_iter2 N (zz40_k2 N) (fun j st => (zz40_K2 N) (.exit j) st) N l0 n1 k5)).trans (congrArg (fun k => zz40_l2 N k N l0 n1 k5) h)
theorem run0_zz40 (N : Nat) (x : (S_zz40).a.den) : runF (A_zz40) N Try.f120 S_zz40 x = (zz40_s (zz40_R2 N N (zz40_K2 N)) x.1 x.2.1) := by kernel_rfl
theorem run_zz40 (N : Nat) (x : (S_zz40).a.den) : runF (A_zz40) N Try.f120 S_zz40 x = zz40 N x.1 x.2.1 := by
  refine (run0_zz40 N x).trans ?_
  rw [(funext fun l0 => (funext fun n1 => (funext fun k5 => zz40_in2 N l0 n1 k5)))]
  rfl
theorem fn_zz40 : FnOk Try.prog 120 := ⟨_, Try.func120, by kernel_rfl, by kernel_rfl⟩
theorem good_zz40 : Gx.Good Try.prog 120 S_zz40 := good_of_run Try.func120 (of_decide_eq_true (by kernel_rfl)) fun x r h => ⟨A_zz40, big, mkCfg_ok tabOk, mkCfg_sigs (show SigsOk Try.prog [] from trivial), (run_zz40 big x).trans h⟩
end Go.Proofs.Ytcdlbboeflehdaa
