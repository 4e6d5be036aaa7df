import Derived.Test.YtcdlbboeflehdaaGxGen
import Derived.Test.YtcdlbboeflehdaaRows
import Derived.Test.YtcdlbboeflehdaaChecked
import Derived.KernelRfl
set_option maxRecDepth 100000
set_option linter.unusedVariables false
namespace Go.Proofs.Ytcdlbboeflehdaa
open Go Go.Gx Go.Proofs
abbrev I := Ty.int .i64
abbrev y1 : Ty := (.ptr (.pair (.sl (.sl I)) .unit))
abbrev Y1 := (Option ((List (List Bool)) × ((List (List Int)) × ((List (List Int)) × Unit))))
abbrev Y2 := ((List (List Int)) × Unit)
abbrev Y7 := (Int × ((List (Int × ((List Int) × Unit))) × Unit))
abbrev Y6 := (Int × ((List Int) × Unit))
abbrev Y3 := (List (List Int))
abbrev Y4 := (List Int)
abbrev Y5 := (List (List Bool))
abbrev Z0 := Option (Bool × Unit)
abbrev Z1 := (Int × (Int × Unit))
abbrev Z2 := Option ((Bool × (Bool × Unit)) × Unit)
abbrev Z3 := Option (Y2 × Unit)
abbrev Z4 := Option (Y2 × ((Y4 × Z1) × Unit))
abbrev Z5 := Option (Y4 × Unit)
abbrev Z6 := Option (Int × Unit)
abbrev Z7 := Option ((Y4 × (Bool × Unit)) × Unit)
abbrev Z8 := Option ((Option Y4) × Unit)
abbrev Z9 := Option ((Y5 × (Bool × Unit)) × Unit)
abbrev Z10 := Option ((Y3 × (Bool × Unit)) × Unit)
abbrev Z11 := Option (Y5 × Unit)
abbrev Z12 := (List Z1)
abbrev Z13 := (Y4 × Z1)
abbrev Z14 := Option (Z12 × Unit)
abbrev Z15 := Option (Y4 × (Z13 × Unit))
abbrev Z16 := (Y1 × Unit)
def tab : Tab := { es := [(22, (.int .u8), .i), (24, I, .i), (33, (.sl I), (.o .i)), (69, (.sl .bool), (.o .i)), (70, (.sl .bool), (.o .i)), (79, .bool, .i), (103, (.pair I (.pair I .unit)), .i)], ts := [(3, I, .i), (4, .bool, .i), (5, (.int .u8), .i), (22, (.sl (.int .u8)), (.o .i)), (24, (.sl I), (.o .i)), (33, (.sl (.sl I)), (.o (.o .i))), (35, (.pair (.sl (.sl I)) .unit), (.p (.o (.o .i)) .i)), (52, (.ptr (.pair (.sl (.int .u8)) (.pair I (.pair (.int .u64) .unit)))), (.o (.p (.o .i) .i))), (53, (.int .u64), .i), (55, (.pair (.sl (.int .u8)) (.pair I (.pair (.int .u64) .unit))), (.p (.o .i) .i)), (65, (.opt (.pair (.sl (.sl .bool)) (.pair (.sl (.sl I)) (.pair (.sl (.sl I)) .unit)))), .i), (69, (.sl (.sl .bool)), (.o (.o .i))), (70, (.sl (.sl .bool)), (.o (.o .i))), (72, (.pair (.sl (.sl .bool)) (.pair (.sl (.sl I)) (.pair (.sl (.sl I)) .unit))), (.p (.o (.o .i)) (.p (.o (.o .i)) (.p (.o (.o .i)) .i)))), (79, (.sl .bool), (.o .i)), (103, (.sl (.pair I (.pair I .unit))), (.o .i)), (105, (.pair I (.pair I .unit)), .i)], fs := [(35, [((.sl (.sl I)), (.o (.o .i)))]), (55, [((.sl (.int .u8)), (.o .i)), (I, .i), ((.int .u64), .i)]), (72, [((.sl (.sl .bool)), (.o (.o .i))), ((.sl (.sl I)), (.o (.o .i))), ((.sl (.sl I)), (.o (.o .i)))])], ars := [(105, I, .i, 2)] }
theorem tabOk : tab.chk Try.prog = true := by kernel_rfl
def vbmh (code_0 : Y4) : Z0 :=
  some (decide ((65536 : Int) < (code_0.length : Int)), (()))
def zz0 (code_0 : Y4) : Z0 := vbmh code_0
def S_zz0 : Sig := { a := (.pair (.sl (.int .u8)) .unit), md := [0], mf := [], m := .unit, r := .bool, rf := .i, f := fun x => zz0 x.1 }
def A_zz0 : Cfg := mkCfg tab [] []
theorem run_zz0 (N : Nat) (x : (S_zz0).a.den) : runF (A_zz0) N Try.f18 S_zz0 x = zz0 x.1 := by kernel_rfl
theorem fn_zz0 : FnOk Try.prog 18 := ⟨_, Try.func18, by kernel_rfl, by kernel_rfl⟩
theorem good_zz0 : Gx.Good Try.prog 18 S_zz0 := vaa Try.func18 (of_decide_eq_true (by kernel_rfl)) fun x r h => ⟨A_zz0, big, vac tabOk, vab (show SigsOk Try.prog [] from trivial), (run_zz0 big x).trans h⟩
def vbmd (c_0 : Z13) : Option (Int × (Z13 × Unit)) :=
  cond (decide (c_0.2.1 < (c_0.1.length : Int)))
  ((atI c_0.1 c_0.2.1).bind fun xq1 =>
  cond (decide (((((c_0.1, (IntKind.i64.wrap (c_0.2.1 + (1 : Int)), c_0.2.2)).1, (((c_0.1, (IntKind.i64.wrap (c_0.2.1 + (1 : Int)), c_0.2.2)).2).1, (IntKind.u64.wrap ((IntKind.u64.wrap ((IntKind.u64.wrap (((((c_0.1, (IntKind.i64.wrap (c_0.2.1 + (1 : Int)), c_0.2.2)).2).2).1) * (6364136223846793005 : Int))) + (IntKind.u64.wrap (IntKind.i64.wrap xq1)))) + (550289 : Int)), (((c_0.1, (IntKind.i64.wrap (c_0.2.1 + (1 : Int)), c_0.2.2)).2).2).2))).2).1) ≤ ((((c_0.1, (IntKind.i64.wrap (c_0.2.1 + (1 : Int)), c_0.2.2)).1, (((c_0.1, (IntKind.i64.wrap (c_0.2.1 + (1 : Int)), c_0.2.2)).2).1, (IntKind.u64.wrap ((IntKind.u64.wrap ((IntKind.u64.wrap (((((c_0.1, (IntKind.i64.wrap (c_0.2.1 + (1 : Int)), c_0.2.2)).2).2).1) * (6364136223846793005 : Int))) + (IntKind.u64.wrap (IntKind.i64.wrap xq1)))) + (550289 : Int)), (((c_0.1, (IntKind.i64.wrap (c_0.2.1 + (1 : Int)), c_0.2.2)).2).2).2))).1).length : Int)))
  (some (IntKind.i64.wrap xq1, (((c_0.1, (IntKind.i64.wrap (c_0.2.1 + (1 : Int)), c_0.2.2)).1, (((c_0.1, (IntKind.i64.wrap (c_0.2.1 + (1 : Int)), c_0.2.2)).2).1, (IntKind.u64.wrap ((IntKind.u64.wrap ((IntKind.u64.wrap (((((c_0.1, (IntKind.i64.wrap (c_0.2.1 + (1 : Int)), c_0.2.2)).2).2).1) * (6364136223846793005 : Int))) + (IntKind.u64.wrap (IntKind.i64.wrap xq1)))) + (550289 : Int)), (((c_0.1, (IntKind.i64.wrap (c_0.2.1 + (1 : Int)), c_0.2.2)).2).2).2))), ())))
  ((shrI IntKind.u64 (((((c_0.1, (IntKind.i64.wrap (c_0.2.1 + (1 : Int)), c_0.2.2)).1, (((c_0.1, (IntKind.i64.wrap (c_0.2.1 + (1 : Int)), c_0.2.2)).2).1, (IntKind.u64.wrap ((IntKind.u64.wrap ((IntKind.u64.wrap (((((c_0.1, (IntKind.i64.wrap (c_0.2.1 + (1 : Int)), c_0.2.2)).2).2).1) * (6364136223846793005 : Int))) + (IntKind.u64.wrap (IntKind.i64.wrap xq1)))) + (550289 : Int)), (((c_0.1, (IntKind.i64.wrap (c_0.2.1 + (1 : Int)), c_0.2.2)).2).2).2))).2).2).1) (40 : Int)).bind fun xq2 =>
  some (IntKind.i64.wrap (bitI .and IntKind.u64 xq2 (255 : Int)), (((c_0.1, (IntKind.i64.wrap (c_0.2.1 + (1 : Int)), c_0.2.2)).1, (((c_0.1, (IntKind.i64.wrap (c_0.2.1 + (1 : Int)), c_0.2.2)).2).1, (IntKind.u64.wrap ((IntKind.u64.wrap ((IntKind.u64.wrap (((((c_0.1, (IntKind.i64.wrap (c_0.2.1 + (1 : Int)), c_0.2.2)).2).2).1) * (6364136223846793005 : Int))) + (IntKind.u64.wrap (IntKind.i64.wrap xq1)))) + (550289 : Int)), (((c_0.1, (IntKind.i64.wrap (c_0.2.1 + (1 : Int)), c_0.2.2)).2).2).2))), ()))))
  (cond (decide (((((c_0.1, (IntKind.i64.wrap (c_0.2.1 + (1 : Int)), c_0.2.2)).1, (((c_0.1, (IntKind.i64.wrap (c_0.2.1 + (1 : Int)), c_0.2.2)).2).1, (IntKind.u64.wrap ((IntKind.u64.wrap ((IntKind.u64.wrap (((((c_0.1, (IntKind.i64.wrap (c_0.2.1 + (1 : Int)), c_0.2.2)).2).2).1) * (6364136223846793005 : Int))) + (IntKind.u64.wrap (0 : Int)))) + (550289 : Int)), (((c_0.1, (IntKind.i64.wrap (c_0.2.1 + (1 : Int)), c_0.2.2)).2).2).2))).2).1) ≤ ((((c_0.1, (IntKind.i64.wrap (c_0.2.1 + (1 : Int)), c_0.2.2)).1, (((c_0.1, (IntKind.i64.wrap (c_0.2.1 + (1 : Int)), c_0.2.2)).2).1, (IntKind.u64.wrap ((IntKind.u64.wrap ((IntKind.u64.wrap (((((c_0.1, (IntKind.i64.wrap (c_0.2.1 + (1 : Int)), c_0.2.2)).2).2).1) * (6364136223846793005 : Int))) + (IntKind.u64.wrap (0 : Int)))) + (550289 : Int)), (((c_0.1, (IntKind.i64.wrap (c_0.2.1 + (1 : Int)), c_0.2.2)).2).2).2))).1).length : Int)))
  (some ((0 : Int), (((c_0.1, (IntKind.i64.wrap (c_0.2.1 + (1 : Int)), c_0.2.2)).1, (((c_0.1, (IntKind.i64.wrap (c_0.2.1 + (1 : Int)), c_0.2.2)).2).1, (IntKind.u64.wrap ((IntKind.u64.wrap ((IntKind.u64.wrap (((((c_0.1, (IntKind.i64.wrap (c_0.2.1 + (1 : Int)), c_0.2.2)).2).2).1) * (6364136223846793005 : Int))) + (IntKind.u64.wrap (0 : Int)))) + (550289 : Int)), (((c_0.1, (IntKind.i64.wrap (c_0.2.1 + (1 : Int)), c_0.2.2)).2).2).2))), ())))
  ((shrI IntKind.u64 (((((c_0.1, (IntKind.i64.wrap (c_0.2.1 + (1 : Int)), c_0.2.2)).1, (((c_0.1, (IntKind.i64.wrap (c_0.2.1 + (1 : Int)), c_0.2.2)).2).1, (IntKind.u64.wrap ((IntKind.u64.wrap ((IntKind.u64.wrap (((((c_0.1, (IntKind.i64.wrap (c_0.2.1 + (1 : Int)), c_0.2.2)).2).2).1) * (6364136223846793005 : Int))) + (IntKind.u64.wrap (0 : Int)))) + (550289 : Int)), (((c_0.1, (IntKind.i64.wrap (c_0.2.1 + (1 : Int)), c_0.2.2)).2).2).2))).2).2).1) (40 : Int)).bind fun xq3 =>
  some (IntKind.i64.wrap (bitI .and IntKind.u64 xq3 (255 : Int)), (((c_0.1, (IntKind.i64.wrap (c_0.2.1 + (1 : Int)), c_0.2.2)).1, (((c_0.1, (IntKind.i64.wrap (c_0.2.1 + (1 : Int)), c_0.2.2)).2).1, (IntKind.u64.wrap ((IntKind.u64.wrap ((IntKind.u64.wrap (((((c_0.1, (IntKind.i64.wrap (c_0.2.1 + (1 : Int)), c_0.2.2)).2).2).1) * (6364136223846793005 : Int))) + (IntKind.u64.wrap (0 : Int)))) + (550289 : Int)), (((c_0.1, (IntKind.i64.wrap (c_0.2.1 + (1 : Int)), c_0.2.2)).2).2).2))), ()))))
def zz1 (c_0 : Z13) : Option (Int × (Z13 × Unit)) := vbmd c_0
def S_zz1 : Sig := { a := (.pair (.ptr (.pair (.sl (.int .u8)) (.pair I (.pair (.int .u64) .unit)))) .unit), md := [1], mf := [(.o .i)], m := (.pair (.ptr (.pair (.sl (.int .u8)) (.pair I (.pair (.int .u64) .unit)))) .unit), r := I, rf := .i, f := fun x => zz1 x.1 }
def A_zz1 : Cfg := mkCfg tab [] []
theorem run_zz1 (N : Nat) (x : (S_zz1).a.den) : runF (A_zz1) N Try.f88 S_zz1 x = zz1 x.1 := by kernel_rfl
theorem fn_zz1 : FnOk Try.prog 88 := ⟨_, Try.func88, by kernel_rfl, by kernel_rfl⟩
theorem good_zz1 : Gx.Good Try.prog 88 S_zz1 := vaa Try.func88 (of_decide_eq_true (by kernel_rfl)) fun x r h => ⟨A_zz1, big, vac tabOk, vab (show SigsOk Try.prog [] from trivial), (run_zz1 big x).trans h⟩
def vbmj (c_0 : Z13) (n_1 : Int) : Option (Int × (Z13 × Unit)) :=
  cond (decide (n_1 ≤ (1 : Int)))
  (some ((0 : Int), (c_0, ())))
  ((zz1 c_0).bind fun rq1 =>
  cond (decide ((200 : Int) < n_1))
  ((zz1 rq1.2.1).bind fun rq2 =>
  (remI (IntKind.i64.wrap ((IntKind.i64.wrap (rq1.1 * (256 : Int))) + rq2.1)) n_1).bind fun xq3 =>
  some (xq3, (rq2.2.1, ())))
  ((remI rq1.1 n_1).bind fun xq4 =>
  some (xq4, (rq1.2.1, ()))))
def zz2 (c_0 : Z13) (n_1 : Int) : Option (Int × (Z13 × Unit)) := vbmj c_0 n_1
def S_zz2 : Sig := { a := (.pair (.ptr (.pair (.sl (.int .u8)) (.pair I (.pair (.int .u64) .unit)))) (.pair I .unit)), md := [1, 0], mf := [(.o .i)], m := (.pair (.ptr (.pair (.sl (.int .u8)) (.pair I (.pair (.int .u64) .unit)))) .unit), r := I, rf := .i, f := fun x => zz2 x.1 x.2.1 }
def A_zz2 : Cfg := mkCfg tab [(88, S_zz1)] []
theorem run_zz2 (N : Nat) (x : (S_zz2).a.den) : runF (A_zz2) N Try.f39 S_zz2 x = zz2 x.1 x.2.1 := by kernel_rfl
theorem fn_zz2 : FnOk Try.prog 39 := ⟨_, Try.func39, by kernel_rfl, by kernel_rfl⟩
theorem good_zz2 : Gx.Good Try.prog 39 S_zz2 := vaa Try.func39 (of_decide_eq_true (by kernel_rfl)) fun x r h => ⟨A_zz2, big, vac tabOk, vab (show SigsOk Try.prog [(88, S_zz1)] from ⟨⟨fn_zz1, good_zz1⟩, trivial⟩), (run_zz2 big x).trans h⟩
def vbml (c_0 : Z13) (n_1 : Int) : Option (Bool × (Z13 × Unit)) :=
  (zz2 c_0 n_1).bind fun rq1 =>
  some (decide (rq1.1 = (0 : Int)), (rq1.2.1, ()))
def zz3 (c_0 : Z13) (n_1 : Int) : Option (Bool × (Z13 × Unit)) := vbml c_0 n_1
def S_zz3 : Sig := { a := (.pair (.ptr (.pair (.sl (.int .u8)) (.pair I (.pair (.int .u64) .unit)))) (.pair I .unit)), md := [1, 0], mf := [(.o .i)], m := (.pair (.ptr (.pair (.sl (.int .u8)) (.pair I (.pair (.int .u64) .unit)))) .unit), r := .bool, rf := .i, f := fun x => zz3 x.1 x.2.1 }
def A_zz3 : Cfg := mkCfg tab [(39, S_zz2)] []
theorem run_zz3 (N : Nat) (x : (S_zz3).a.den) : runF (A_zz3) N Try.f50 S_zz3 x = zz3 x.1 x.2.1 := by kernel_rfl
theorem fn_zz3 : FnOk Try.prog 50 := ⟨_, Try.func50, by kernel_rfl, by kernel_rfl⟩
theorem good_zz3 : Gx.Good Try.prog 50 S_zz3 := vaa Try.func50 (of_decide_eq_true (by kernel_rfl)) fun x r h => ⟨A_zz3, big, vac tabOk, vab (show SigsOk Try.prog [(39, S_zz2)] from ⟨⟨fn_zz2, good_zz2⟩, trivial⟩), (run_zz3 big x).trans h⟩
def vbmc (c_0 : Z13) (list_1 : Y4) : Option (Int × (Z13 × Unit)) :=
  (zz2 c_0 (list_1.length : Int)).bind fun rq1 =>
  (atI list_1 rq1.1).bind fun xq2 =>
  some (xq2, (rq1.2.1, ()))
def zz4 (c_0 : Z13) (list_1 : Y4) : Option (Int × (Z13 × Unit)) := vbmc c_0 list_1
def S_zz4 : Sig := { a := (.pair (.ptr (.pair (.sl (.int .u8)) (.pair I (.pair (.int .u64) .unit)))) (.pair (.sl I) .unit)), md := [1, 0], mf := [(.o .i)], m := (.pair (.ptr (.pair (.sl (.int .u8)) (.pair I (.pair (.int .u64) .unit)))) .unit), r := I, rf := .i, f := fun x => zz4 x.1 x.2.1 }
def A_zz4 : Cfg := mkCfg tab [(39, S_zz2)] []
theorem run_zz4 (N : Nat) (x : (S_zz4).a.den) : runF (A_zz4) N Try.f87 S_zz4 x = zz4 x.1 x.2.1 := by kernel_rfl
theorem fn_zz4 : FnOk Try.prog 87 := ⟨_, Try.func87, by kernel_rfl, by kernel_rfl⟩
theorem good_zz4 : Gx.Good Try.prog 87 S_zz4 := vaa Try.func87 (of_decide_eq_true (by kernel_rfl)) fun x r h => ⟨A_zz4, big, vac tabOk, vab (show SigsOk Try.prog [(39, S_zz2)] from ⟨⟨fn_zz2, good_zz2⟩, trivial⟩), (run_zz4 big x).trans h⟩
def vtp (rec : Z13 → Int → Y4 → Int → Z15) (k : Z13 → Int → Y4 → Z15) (c0 : Z13) (n1 : Int) (out5 : Y4) (i6 : Int) : Z15 :=
  cond (decide (i6 < n1))
  ((zz2 c0 (IntKind.i64.wrap ((out5.length : Int) + (1 : Int)))).bind fun rq1 =>
  (slI out5 0 rq1.1).bind fun xq2 =>
  (appI [] xq2).bind fun xq3 =>
  (appI xq3 [i6]).bind fun xq4 =>
  (slI out5 rq1.1 out5.length).bind fun xq5 =>
  (appI xq4 xq5).bind fun xq6 =>
  rec rq1.2.1 n1 xq6 (IntKind.i64.wrap (i6 + (1 : Int))))
  (k c0 n1 out5)
def vqq (c0 : Z13) (n1 : Int) (out5 : Y4) : Z15 :=
  (zz2 c0 (24 : Int)).bind fun rq7 =>
  cond (decide (rq7.1 = (0 : Int)))
  ((appI out5 [n1]).bind fun xq8 =>
  some (xq8, (rq7.2.1, ())))
  (cond (decide (rq7.1 = (1 : Int)))
  (cond (decide ((0 : Int) < n1))
  ((zz2 rq7.2.1 n1).bind fun rq9 =>
  (zz4 rq9.2.1 [(0 : Int), (-1 : Int), n1]).bind fun rq10 =>
  (atI out5 rq9.1).bind fun _ =>
  (out5[rq9.1.toNat]?).bind fun xq11 =>
  some (out5.set rq9.1.toNat rq10.1, (rq10.2.1, ())))
  (some (out5, (rq7.2.1, ()))))
  (some (out5, (rq7.2.1, ()))))
def vbdf (L3 : Z13 → Int → Y4 → Int → Z15) (c_0 : Z13) (n_1 : Int) : Z15 :=
  L3 c_0 n_1 [] (0 : Int)
def vuj (N : Nat) (k : Z13 → Int → Y4 → Z15) : Nat → Z13 → Int → Y4 → Int → Z15
  | 0, _, _, _, _ => none
  | m + 1, c0, n1, out5, i6 => vtp (vuj N k m) k c0 n1 out5 i6
def varh (N : Nat) (c0 : Z13) (n1 : Int) (out5 : Y4) (i6 : Int) : Z15 := vuj N (vqq) N c0 n1 out5 i6
def zz5 (N : Nat) (c_0 : Z13) (n_1 : Int) : Z15 := vbdf (varh N) c_0 n_1
def S_zz5 : Sig := { a := (.pair (.ptr (.pair (.sl (.int .u8)) (.pair I (.pair (.int .u64) .unit)))) (.pair I .unit)), md := [1, 0], mf := [(.o .i)], m := (.pair (.ptr (.pair (.sl (.int .u8)) (.pair I (.pair (.int .u64) .unit)))) .unit), r := (.sl I), rf := (.o .i), f := fun x => zz5 big x.1 x.2.1 }
def A_zz5 : Cfg := mkCfg tab [(39, S_zz2), (87, S_zz4)] [(6, [.as (.ptr (.pair (.sl (.int .u8)) (.pair I (.pair (.int .u64) .unit)))) (.o .i), .as I .i, .drop, .drop, .drop, .as (.sl I) (.o .i), .as I .i]), (13, [.as (.ptr (.pair (.sl (.int .u8)) (.pair I (.pair (.int .u64) .unit)))) (.o .i), .as I .i, .drop, .drop, .drop, .as (.sl I) .i, .as I .i, .as I .i]), (15, [.as (.ptr (.pair (.sl (.int .u8)) (.pair I (.pair (.int .u64) .unit)))) (.o .i), .as I .i, .drop, .drop, .drop, .as (.sl I) (.o .i)])]
noncomputable def vtk (N n : Nat) (K : Ex → St → Z15) (c0 : Z13) (n1 : Int) (out5 : Y4) (i6 : Int) : Z15 := iter ((A_zz5).shape 6) (run (A_zz5) N (codeAt Try.f95 [1, 1, 0, 1, 0, 0])) n ([.val (.ptr (.pair (.sl (.int .u8)) (.pair I (.pair (.int .u64) .unit)))) (.o .i) c0, .val I .i n1, .u, .u, .u, .val (.sl I) (.o .i) out5, .val I .i i6] ++ List.replicate 46 .u) K
noncomputable abbrev vbbb : Ex → St → Z15 := finish (A_zz5) S_zz5 Try.f95.results.toList
noncomputable abbrev vxj (kX : St → Z15) : Z13 → Int → Y4 → Z15 := fun (c0 : Z13) (n1 : Int) (out5 : Y4) => kX ([.val (.ptr (.pair (.sl (.int .u8)) (.pair I (.pair (.int .u64) .unit)))) (.o .i) c0, .val I .i n1, .u, .u, .u, .val (.sl I) (.o .i) out5] ++ List.replicate 47 .u)
noncomputable abbrev vaen (kX : St → Z15) (kO : Nat → St → Z15) : Ex → St → Z15 := exK vbbb 0 ((A_zz5).shape 15) kX kO
theorem vbgv (N m : Nat) (kX : St → Z15) (kO : Nat → St → Z15) (c0 : Z13) (n1 : Int) (out5 : Y4) (i6 : Int) : vtk N (m + 1) (vaen kX kO) c0 n1 out5 i6 = vtp (vtk N m (vaen kX kO)) (vxj kX) c0 n1 out5 i6 := by kernel_rfl
theorem vani (N : Nat) (kX : St → Z15) (kO : Nat → St → Z15) : ∀ (n : Nat) (c0 : Z13) (n1 : Int) (out5 : Y4) (i6 : Int), vtk N n (vaen kX kO) c0 n1 out5 i6 = vuj N (vxj kX) n c0 n1 out5 i6
  | 0, _, _, _, _ => rfl
  | m + 1, c0, n1, out5, i6 => by
    have hrec : vtk N m (vaen kX kO) = (vuj N (vxj kX) m) := (funext fun c0 => (funext fun n1 => (funext fun out5 => (funext fun i6 => vani N kX kO m c0 n1 out5 i6))))
    refine (vbgv N m kX kO c0 n1 out5 i6).trans ?_
    rw [hrec]
    rfl
noncomputable abbrev vava (N : Nat) : Ex → St → Z15 := (blockK 0 (seqK ((A_zz5).shape 15) (gated ((A_zz5).shape 500007).isSome N (run (A_zz5) N (codeAt Try.f95 [1, 1, 1]))) vbbb))
noncomputable abbrev vapz (N : Nat) : St → Z15 := fun st' => run (A_zz5) N (codeAt Try.f95 [1, 1, 1]) st' vbbb
theorem vbbd (N : Nat) (c0 : Z13) (n1 : Int) (out5 : Y4) : vxj (vapz N) c0 n1 out5 = vqq c0 n1 out5 := by kernel_rfl
theorem vbou (N : Nat) (c0 : Z13) (n1 : Int) (out5 : Y4) (i6 : Int) : vtk N N (vava N) c0 n1 out5 i6 = varh N c0 n1 out5 i6 :=
  have h : vxj (vapz N) = (vqq) := (funext fun c0 => (funext fun n1 => (funext fun out5 => vbbd N c0 n1 out5)))
  ((vad (fun st => by kernel_rfl) (fun st => by kernel_rfl)).trans (vani N (vapz N) (fun j st => (vava N) (.exit j) st) N c0 n1 out5 i6)).trans (congrArg (fun k => vuj N k N c0 n1 out5 i6) h)
theorem run0_zz5 (N : Nat) (x : (S_zz5).a.den) : runF (A_zz5) N Try.f95 S_zz5 x = (vbdf (vtk N N (vava N)) x.1 x.2.1) := by kernel_rfl
theorem run_zz5 (N : Nat) (x : (S_zz5).a.den) : runF (A_zz5) N Try.f95 S_zz5 x = zz5 N x.1 x.2.1 := by
  refine (run0_zz5 N x).trans ?_
  rw [(funext fun c0 => (funext fun n1 => (funext fun out5 => (funext fun i6 => vbou N c0 n1 out5 i6))))]
  rfl
theorem fn_zz5 : FnOk Try.prog 95 := ⟨_, Try.func95, by kernel_rfl, by kernel_rfl⟩
theorem good_zz5 : Gx.Good Try.prog 95 S_zz5 := vaa Try.func95 (of_decide_eq_true (by kernel_rfl)) fun x r h => ⟨A_zz5, big, vac tabOk, vab (show SigsOk Try.prog [(39, S_zz2), (87, S_zz4)] from ⟨⟨fn_zz2, good_zz2⟩, ⟨fn_zz4, good_zz4⟩, trivial⟩), (run_zz5 big x).trans h⟩
def vbmk (x_0 a_1 b_2 : Int) : Z0 :=
  cond (decide (a_1 ≤ x_0))
  (some (decide (x_0 ≤ b_2), (())))
  (some (false, (())))
def zz6 (x_0 a_1 b_2 : Int) : Z0 := vbmk x_0 a_1 b_2
def S_zz6 : Sig := { a := (.pair I (.pair I (.pair I .unit))), md := [0, 0, 0], mf := [], m := .unit, r := .bool, rf := .i, f := fun x => zz6 x.1 x.2.1 x.2.2.1 }
def A_zz6 : Cfg := mkCfg tab [] []
theorem run_zz6 (N : Nat) (x : (S_zz6).a.den) : runF (A_zz6) N Try.f107 S_zz6 x = zz6 x.1 x.2.1 x.2.2.1 := by kernel_rfl
theorem fn_zz6 : FnOk Try.prog 107 := ⟨_, Try.func107, by kernel_rfl, by kernel_rfl⟩
theorem good_zz6 : Gx.Good Try.prog 107 S_zz6 := vaa Try.func107 (of_decide_eq_true (by kernel_rfl)) fun x r h => ⟨A_zz6, big, vac tabOk, vab (show SigsOk Try.prog [] from trivial), (run_zz6 big x).trans h⟩
def vtx (rec : Int → Y4 → Int → Z0) (k : Z0) (n0 : Int) (list1 : Y4) (i5 : Int) : Z0 :=
  cond (decide (i5 < (list1.length : Int)))
  ((atI list1 i5).bind fun xq1 =>
  (zz6 xq1 (0 : Int) (IntKind.i64.wrap (n0 - (1 : Int)))).bind fun rq2 =>
  cond (!rq2.1)
  (some (false, (())))
  (rec n0 list1 (IntKind.i64.wrap (i5 + (1 : Int)))))
  (k)
def vqt : Z0 :=
  some (true, (()))
def vbcl (L2 : Int → Y4 → Int → Z0) (n_0 : Int) (list_1 : Y4) : Z0 :=
  L2 n_0 list_1 (0 : Int)
def vtw (N : Nat) (k : Z0) : Nat → Int → Y4 → Int → Z0
  | 0, _, _, _ => none
  | m + 1, n0, list1, i5 => vtx (vtw N k m) k n0 list1 i5
def vass (N : Nat) (n0 : Int) (list1 : Y4) (i5 : Int) : Z0 := vtw N (vqt) N n0 list1 i5
def zz7 (N : Nat) (n_0 : Int) (list_1 : Y4) : Z0 := vbcl (vass N) n_0 list_1
def S_zz7 : Sig := { a := (.pair I (.pair (.sl I) .unit)), md := [0, 0], mf := [], m := .unit, r := .bool, rf := .i, f := fun x => zz7 big x.1 x.2.1 }
def A_zz7 : Cfg := mkCfg tab [(107, S_zz6)] [(4, [.as I .i, .as (.sl I) .i, .drop, .drop, .drop, .as I .i]), (13, [])]
noncomputable def vuv (N n : Nat) (K : Ex → St → Z0) (n0 : Int) (list1 : Y4) (i5 : Int) : Z0 := iter ((A_zz7).shape 4) (run (A_zz7) N (codeAt Try.f56 [1, 0, 1, 0, 0])) n ([.val I .i n0, .val (.sl I) .i list1, .u, .u, .u, .val I .i i5] ++ List.replicate 14 .u) K
noncomputable abbrev vbbu : Ex → St → Z0 := finish (A_zz7) S_zz7 Try.f56.results.toList
noncomputable abbrev vxe (kX : St → Z0) : Z0 := kX ([] ++ List.replicate 20 .u)
noncomputable abbrev vaea (kX : St → Z0) (kO : Nat → St → Z0) : Ex → St → Z0 := exK vbbu 0 ((A_zz7).shape 13) kX kO
theorem vbfq (N m : Nat) (kX : St → Z0) (kO : Nat → St → Z0) (n0 : Int) (list1 : Y4) (i5 : Int) : vuv N (m + 1) (vaea kX kO) n0 list1 i5 = vtx (vuv N m (vaea kX kO)) (vxe kX) n0 list1 i5 := by kernel_rfl
theorem vaoe (N : Nat) (kX : St → Z0) (kO : Nat → St → Z0) : ∀ (n : Nat) (n0 : Int) (list1 : Y4) (i5 : Int), vuv N n (vaea kX kO) n0 list1 i5 = vtw N (vxe kX) n n0 list1 i5
  | 0, _, _, _ => rfl
  | m + 1, n0, list1, i5 => by
    have hrec : vuv N m (vaea kX kO) = (vtw N (vxe kX) m) := (funext fun n0 => (funext fun list1 => (funext fun i5 => vaoe N kX kO m n0 list1 i5)))
    refine (vbfq N m kX kO n0 list1 i5).trans ?_
    rw [hrec]
    rfl
noncomputable abbrev vaua (N : Nat) : Ex → St → Z0 := (blockK 0 (seqK ((A_zz7).shape 13) (gated ((A_zz7).shape 500006).isSome N (run (A_zz7) N (codeAt Try.f56 [1, 1]))) vbbu))
noncomputable abbrev vara (N : Nat) : St → Z0 := fun st' => run (A_zz7) N (codeAt Try.f56 [1, 1]) st' vbbu
theorem vbaq (N : Nat) : vxe (vara N) = vqt := by kernel_rfl
theorem vboi (N : Nat) (n0 : Int) (list1 : Y4) (i5 : Int) : vuv N N (vaua N) n0 list1 i5 = vass N n0 list1 i5 :=
  have h : vxe (vara N) = (vqt) := vbaq N
  ((vad (fun st => by kernel_rfl) (fun st => by kernel_rfl)).trans (vaoe N (vara N) (fun j st => (vaua N) (.exit j) st) N n0 list1 i5)).trans (congrArg (fun k => vtw N k N n0 list1 i5) h)
theorem run0_zz7 (N : Nat) (x : (S_zz7).a.den) : runF (A_zz7) N Try.f56 S_zz7 x = (vbcl (vuv N N (vaua N)) x.1 x.2.1) := by kernel_rfl
theorem run_zz7 (N : Nat) (x : (S_zz7).a.den) : runF (A_zz7) N Try.f56 S_zz7 x = zz7 N x.1 x.2.1 := by
  refine (run0_zz7 N x).trans ?_
  rw [(funext fun n0 => (funext fun list1 => (funext fun i5 => vboi N n0 list1 i5)))]
  rfl
theorem fn_zz7 : FnOk Try.prog 56 := ⟨_, Try.func56, by kernel_rfl, by kernel_rfl⟩
theorem good_zz7 : Gx.Good Try.prog 56 S_zz7 := vaa Try.func56 (of_decide_eq_true (by kernel_rfl)) fun x r h => ⟨A_zz7, big, vac tabOk, vab (show SigsOk Try.prog [(107, S_zz6)] from ⟨⟨fn_zz6, good_zz6⟩, trivial⟩), (run_zz7 big x).trans h⟩
def vuh (rec : Y4 → Int → (List Bool) → Int → Z0) (k : Z0) (l0 : Y4) (n1 : Int) (seen5 : (List Bool)) (i6 : Int) : Z0 :=
  cond (decide (i6 < n1))
  ((atI l0 i6).bind fun xq4 =>
  (atI seen5 xq4).bind fun _ =>
  (seen5[xq4.toNat]?).bind fun xq5 =>
  cond xq5
  (some (false, (())))
  ((atI l0 i6).bind fun xq6 =>
  (atI seen5 xq6).bind fun _ =>
  (seen5[xq6.toNat]?).bind fun xq7 =>
  rec l0 n1 (seen5.set xq6.toNat true) (IntKind.i64.wrap (i6 + (1 : Int)))))
  (k)
def vqv : Z0 :=
  some (true, (()))
def vbdb (L5 : Y4 → Int → (List Bool) → Int → Z0) (l_0 : Y4) (n_1 : Int) : Z0 :=
  cond (decide ((l_0.length : Int) ≠ n_1))
  (some (false, (())))
  ((zz7 big n_1 l_0).bind fun rq1 =>
  cond (!rq1.1)
  (some (false, (())))
  ((mkI false n_1).bind fun xq2 => (mkI false n_1).bind fun xq3 => cond (decide (n_1 ≤ n_1))
  (L5 l_0 n_1 xq3 (0 : Int))
  none))
def vtd (N : Nat) (k : Z0) : Nat → Y4 → Int → (List Bool) → Int → Z0
  | 0, _, _, _, _ => none
  | m + 1, l0, n1, seen5, i6 => vuh (vtd N k m) k l0 n1 seen5 i6
def vaqz (N : Nat) (l0 : Y4) (n1 : Int) (seen5 : (List Bool)) (i6 : Int) : Z0 := vtd N (vqv) N l0 n1 seen5 i6
def zz8 (N : Nat) (l_0 : Y4) (n_1 : Int) : Z0 := vbdb (vaqz N) l_0 n_1
def S_zz8 : Sig := { a := (.pair (.sl I) (.pair I .unit)), md := [0, 0], mf := [], m := .unit, r := .bool, rf := .i, f := fun x => zz8 big x.1 x.2.1 }
def A_zz8 : Cfg := mkCfg tab [(56, S_zz7)] [(10, [.as (.sl I) .i, .as I .i, .drop, .drop, .drop, .as (.sl .bool) (.o .i), .as I .i]), (21, [])]
noncomputable def vso (N n : Nat) (K : Ex → St → Z0) (l0 : Y4) (n1 : Int) (seen5 : (List Bool)) (i6 : Int) : Z0 := iter ((A_zz8).shape 10) (run (A_zz8) N (codeAt Try.f96 [1, 1, 1, 0, 1, 0, 0])) n ([.val (.sl I) .i l0, .val I .i n1, .u, .u, .u, .val (.sl .bool) (.o .i) seen5, .val I .i i6] ++ List.replicate 30 .u) K
noncomputable abbrev vbbc : Ex → St → Z0 := finish (A_zz8) S_zz8 Try.f96.results.toList
noncomputable abbrev vxa (kX : St → Z0) : Z0 := kX ([] ++ List.replicate 37 .u)
noncomputable abbrev vafd (kX : St → Z0) (kO : Nat → St → Z0) : Ex → St → Z0 := exK vbbc 0 ((A_zz8).shape 21) kX kO
theorem vbee (N m : Nat) (kX : St → Z0) (kO : Nat → St → Z0) (l0 : Y4) (n1 : Int) (seen5 : (List Bool)) (i6 : Int) : vso N (m + 1) (vafd kX kO) l0 n1 seen5 i6 = vuh (vso N m (vafd kX kO)) (vxa kX) l0 n1 seen5 i6 := by kernel_rfl
theorem vanh (N : Nat) (kX : St → Z0) (kO : Nat → St → Z0) : ∀ (n : Nat) (l0 : Y4) (n1 : Int) (seen5 : (List Bool)) (i6 : Int), vso N n (vafd kX kO) l0 n1 seen5 i6 = vtd N (vxa kX) n l0 n1 seen5 i6
  | 0, _, _, _, _ => rfl
  | m + 1, l0, n1, seen5, i6 => by
    have hrec : vso N m (vafd kX kO) = (vtd N (vxa kX) m) := (funext fun l0 => (funext fun n1 => (funext fun seen5 => (funext fun i6 => vanh N kX kO m l0 n1 seen5 i6))))
    refine (vbee N m kX kO l0 n1 seen5 i6).trans ?_
    rw [hrec]
    rfl
noncomputable abbrev vats (N : Nat) : Ex → St → Z0 := (blockK 0 (seqK ((A_zz8).shape 21) (gated ((A_zz8).shape 500010).isSome N (run (A_zz8) N (codeAt Try.f96 [1, 1, 1, 1]))) vbbc))
noncomputable abbrev vapg (N : Nat) : St → Z0 := fun st' => run (A_zz8) N (codeAt Try.f96 [1, 1, 1, 1]) st' vbbc
theorem vbcn (N : Nat) : vxa (vapg N) = vqv := by kernel_rfl
theorem vbmp (N : Nat) (l0 : Y4) (n1 : Int) (seen5 : (List Bool)) (i6 : Int) : vso N N (vats N) l0 n1 seen5 i6 = vaqz N l0 n1 seen5 i6 :=
  have h : vxa (vapg N) = (vqv) := vbcn N
  ((vad (fun st => by kernel_rfl) (fun st => by kernel_rfl)).trans (vanh N (vapg N) (fun j st => (vats N) (.exit j) st) N l0 n1 seen5 i6)).trans (congrArg (fun k => vtd N k N l0 n1 seen5 i6) h)
theorem run0_zz8 (N : Nat) (x : (S_zz8).a.den) : runF (A_zz8) N Try.f96 S_zz8 x = (vbdb (vso N N (vats N)) x.1 x.2.1) := by kernel_rfl
theorem run_zz8 (N : Nat) (x : (S_zz8).a.den) : runF (A_zz8) N Try.f96 S_zz8 x = zz8 N x.1 x.2.1 := by
  refine (run0_zz8 N x).trans ?_
  rw [(funext fun l0 => (funext fun n1 => (funext fun seen5 => (funext fun i6 => vbmp N l0 n1 seen5 i6))))]
  rfl
theorem fn_zz8 : FnOk Try.prog 96 := ⟨_, Try.func96, by kernel_rfl, by kernel_rfl⟩
theorem good_zz8 : Gx.Good Try.prog 96 S_zz8 := vaa Try.func96 (of_decide_eq_true (by kernel_rfl)) fun x r h => ⟨A_zz8, big, vac tabOk, vab (show SigsOk Try.prog [(56, S_zz7)] from ⟨⟨fn_zz7, good_zz7⟩, trivial⟩), (run_zz8 big x).trans h⟩
def vnw (rec : Int → Y2 → Y5 → Y2 → Int → Y4 → Int → Z3) (k : Int → Y2 → Y5 → Y2 → Int → Y4 → Z3) (n0 : Int) (t4 : Y2) (leq5 : Y5) (p12 : Y2) (y13 : Int) (below14 : Y4) (x15 : Int) : Z3 :=
  cond (decide (x15 < n0))
  ((atI leq5 x15).bind fun _ =>
  (leq5[x15.toNat]?).bind fun xq33 =>
  (leq5[x15.toNat]?).bind fun xq34 =>
  (atI xq34 y13).bind fun _ =>
  (leq5[x15.toNat]?).bind fun xq35 =>
  (xq35[y13.toNat]?).bind fun xq36 =>
  cond xq36
  ((appI below14 [x15]).bind fun xq37 =>
  rec n0 t4 leq5 p12 y13 xq37 (IntKind.i64.wrap (x15 + (1 : Int))))
  (rec n0 t4 leq5 p12 y13 below14 (IntKind.i64.wrap (x15 + (1 : Int)))))
  (k n0 t4 leq5 p12 y13 below14)
def vjt (rec : Int → Y2 → Y5 → Y2 → Int → Z3) (n0 : Int) (t4 : Y2) (leq5 : Y5) (p12 : Y2) (y13 : Int) (below14 : Y4) : Z3 :=
  (appI p12.1 [below14]).bind fun xq38 =>
  rec n0 t4 leq5 (xq38, ((), p12.2).2) (IntKind.i64.wrap (y13 + (1 : Int)))
def vnt (rec : Int → Y2 → Y5 → Int → Int → Int → Z3) (k : Int → Y2 → Y5 → Int → Int → Z3) (n0 : Int) (t4 : Y2) (leq5 : Y5) (z9 x10 y11 : Int) : Z3 :=
  cond (decide (y11 < n0))
  ((atI leq5 x10).bind fun _ =>
  (leq5[x10.toNat]?).bind fun xq11 =>
  (atI leq5 x10).bind fun _ =>
  (leq5[x10.toNat]?).bind fun xq12 =>
  (leq5[x10.toNat]?).bind fun xq13 =>
  (atI xq13 y11).bind fun _ =>
  (leq5[x10.toNat]?).bind fun xq14 =>
  (xq14[y11.toNat]?).bind fun xq15 =>
  cond xq15
  ((leq5[x10.toNat]?).bind fun xq16 =>
  (atI xq16 y11).bind fun _ =>
  (leq5[x10.toNat]?).bind fun xq17 =>
  (xq17[y11.toNat]?).bind fun xq18 =>
  rec n0 t4 (leq5.set x10.toNat (xq17.set y11.toNat true)) z9 x10 (IntKind.i64.wrap (y11 + (1 : Int))))
  ((atI leq5 x10).bind fun _ =>
  (leq5[x10.toNat]?).bind fun xq19 =>
  (leq5[x10.toNat]?).bind fun xq20 =>
  (atI xq20 z9).bind fun _ =>
  (leq5[x10.toNat]?).bind fun xq21 =>
  (xq21[z9.toNat]?).bind fun xq22 =>
  cond xq22
  ((atI leq5 z9).bind fun _ =>
  (leq5[z9.toNat]?).bind fun xq23 =>
  (leq5[z9.toNat]?).bind fun xq24 =>
  (atI xq24 y11).bind fun _ =>
  (leq5[z9.toNat]?).bind fun xq25 =>
  (xq25[y11.toNat]?).bind fun xq26 =>
  (leq5[x10.toNat]?).bind fun xq27 =>
  (atI xq27 y11).bind fun _ =>
  (leq5[x10.toNat]?).bind fun xq28 =>
  (xq28[y11.toNat]?).bind fun xq29 =>
  rec n0 t4 (leq5.set x10.toNat (xq28.set y11.toNat xq26)) z9 x10 (IntKind.i64.wrap (y11 + (1 : Int))))
  ((leq5[x10.toNat]?).bind fun xq30 =>
  (atI xq30 y11).bind fun _ =>
  (leq5[x10.toNat]?).bind fun xq31 =>
  (xq31[y11.toNat]?).bind fun xq32 =>
  rec n0 t4 (leq5.set x10.toNat (xq31.set y11.toNat false)) z9 x10 (IntKind.i64.wrap (y11 + (1 : Int))))))
  (k n0 t4 leq5 z9 x10)
def vhn (rec : Int → Y2 → Y5 → Int → Int → Z3) (n0 : Int) (t4 : Y2) (leq5 : Y5) (z9 x10 : Int) : Z3 :=
  rec n0 t4 leq5 z9 (IntKind.i64.wrap (x10 + (1 : Int)))
def vmb (L28 : Int → Y2 → Y5 → Y2 → Int → Y4 → Int → Z3) (k : Y2 → Y2 → Z3) (n0 : Int) (t4 : Y2) (leq5 : Y5) (p12 : Y2) (y13 : Int) : Z3 :=
  cond (decide (y13 < n0))
  (L28 n0 t4 leq5 p12 y13 [] (0 : Int))
  (k t4 p12)
def vcn (t4 p12 : Y2) : Z3 :=
  some (p12, (()))
def vmk (L19 : Int → Y2 → Y5 → Int → Int → Int → Z3) (k : Int → Y2 → Y5 → Int → Z3) (n0 : Int) (t4 : Y2) (leq5 : Y5) (z9 x10 : Int) : Z3 :=
  cond (decide (x10 < n0))
  (L19 n0 t4 leq5 z9 x10 (0 : Int))
  (k n0 t4 leq5 z9)
def vcy (rec : Int → Y2 → Y5 → Int → Z3) (n0 : Int) (t4 : Y2) (leq5 : Y5) (z9 : Int) : Z3 :=
  rec n0 t4 leq5 (IntKind.i64.wrap (z9 + (1 : Int)))
def vlu (L16 : Int → Y2 → Y5 → Int → Int → Z3) (k : Int → Y2 → Y5 → Z3) (n0 : Int) (t4 : Y2) (leq5 : Y5) (z9 : Int) : Z3 :=
  cond (decide (z9 < n0))
  (L16 n0 t4 leq5 z9 (0 : Int))
  (k n0 t4 leq5)
def vcq (L24 : Int → Y2 → Y5 → Y2 → Int → Z3) (n0 : Int) (t4 : Y2) (leq5 : Y5) : Z3 :=
  L24 n0 t4 leq5 ([], ()) (0 : Int)
def vsq (rec : Int → Z12 → Y2 → Y5 → Int → Z3) (k : Int → Y2 → Y5 → Z3) (n0 : Int) (pairs1 : Z12) (t4 : Y2) (leq5 : Y5) (i8 : Int) : Z3 :=
  cond (decide (i8 < (pairs1.length : Int)))
  ((atI pairs1 i8).bind fun xq5 =>
  (atI leq5 xq5.1).bind fun _ =>
  (leq5[xq5.1.toNat]?).bind fun xq6 =>
  (atI pairs1 i8).bind fun xq7 =>
  (leq5[xq5.1.toNat]?).bind fun xq8 =>
  (atI xq8 xq7.2.1).bind fun _ =>
  (leq5[xq5.1.toNat]?).bind fun xq9 =>
  (xq9[xq7.2.1.toNat]?).bind fun xq10 =>
  rec n0 pairs1 t4 (leq5.set xq5.1.toNat (xq9.set xq7.2.1.toNat true)) (IntKind.i64.wrap (i8 + (1 : Int))))
  (k n0 t4 leq5)
def vqo (L13 : Int → Y2 → Y5 → Int → Z3) (n0 : Int) (t4 : Y2) (leq5 : Y5) : Z3 :=
  L13 n0 t4 leq5 (0 : Int)
def vtu (rec : Int → Z12 → Y2 → Y5 → Int → Z3) (k : Int → Z12 → Y2 → Y5 → Z3) (n0 : Int) (pairs1 : Z12) (t4 : Y2) (leq5 : Y5) (x6 : Int) : Z3 :=
  cond (decide (x6 < n0))
  ((mkI false n0).bind fun xq1 => (mkI false n0).bind fun xq2 => cond (decide (n0 ≤ n0))
  ((atI xq2 x6).bind fun _ =>
  (xq2[x6.toNat]?).bind fun xq3 =>
  (appI leq5 [xq2.set x6.toNat true]).bind fun xq4 =>
  rec n0 pairs1 t4 xq4 (IntKind.i64.wrap (x6 + (1 : Int))))
  none)
  (k n0 pairs1 t4 leq5)
def vqm (L9 : Int → Z12 → Y2 → Y5 → Int → Z3) (n0 : Int) (pairs1 : Z12) (t4 : Y2) (leq5 : Y5) : Z3 :=
  L9 n0 pairs1 t4 leq5 (0 : Int)
def vbbq (L3 : Int → Z12 → Y2 → Y5 → Int → Z3) (n_0 : Int) (pairs_1 : Z12) : Z3 :=
  L3 n_0 pairs_1 (([] : Y3), ()) [] (0 : Int)
def vnx (N : Nat) (k : Int → Y2 → Y5 → Int → Int → Z3) : Nat → Int → Y2 → Y5 → Int → Int → Int → Z3
  | 0, _, _, _, _, _, _ => none
  | m + 1, n0, t4, leq5, z9, x10, y11 => vnt (vnx N k m) k n0 t4 leq5 z9 x10 y11
def vuu (N : Nat) (rec : Int → Y2 → Y5 → Int → Int → Z3) (k : Int → Y2 → Y5 → Int → Z3) (n0 : Int) (t4 : Y2) (leq5 : Y5) (z9 x10 y11 : Int) : Z3 := vnx N (vhn rec) N n0 t4 leq5 z9 x10 y11
def viq (N : Nat) (k : Int → Y2 → Y5 → Int → Z3) : Nat → Int → Y2 → Y5 → Int → Int → Z3
  | 0, _, _, _, _, _ => none
  | m + 1, n0, t4, leq5, z9, x10 => vmk (vuu N (viq N k m) k) k n0 t4 leq5 z9 x10
def vum (N : Nat) (rec : Int → Y2 → Y5 → Int → Z3) (k : Int → Y2 → Y5 → Z3) (n0 : Int) (t4 : Y2) (leq5 : Y5) (z9 x10 : Int) : Z3 := viq N (vcy rec) N n0 t4 leq5 z9 x10
def vno (N : Nat) (k : Int → Y2 → Y5 → Y2 → Int → Y4 → Z3) : Nat → Int → Y2 → Y5 → Y2 → Int → Y4 → Int → Z3
  | 0, _, _, _, _, _, _, _ => none
  | m + 1, n0, t4, leq5, p12, y13, below14, x15 => vnw (vno N k m) k n0 t4 leq5 p12 y13 below14 x15
def vup (N : Nat) (rec : Int → Y2 → Y5 → Y2 → Int → Z3) (k : Y2 → Y2 → Z3) (n0 : Int) (t4 : Y2) (leq5 : Y5) (p12 : Y2) (y13 : Int) (below14 : Y4) (x15 : Int) : Z3 := vno N (vjt rec) N n0 t4 leq5 p12 y13 below14 x15
def vvc (N : Nat) (k : Int → Z12 → Y2 → Y5 → Z3) : Nat → Int → Z12 → Y2 → Y5 → Int → Z3
  | 0, _, _, _, _, _ => none
  | m + 1, n0, pairs1, t4, leq5, x6 => vtu (vvc N k m) k n0 pairs1 t4 leq5 x6
def vty (N : Nat) (k : Int → Y2 → Y5 → Z3) : Nat → Int → Z12 → Y2 → Y5 → Int → Z3
  | 0, _, _, _, _, _ => none
  | m + 1, n0, pairs1, t4, leq5, i8 => vsq (vty N k m) k n0 pairs1 t4 leq5 i8
def vgb (N : Nat) (k : Int → Y2 → Y5 → Z3) : Nat → Int → Y2 → Y5 → Int → Z3
  | 0, _, _, _, _ => none
  | m + 1, n0, t4, leq5, z9 => vlu (vum N (vgb N k m) k) k n0 t4 leq5 z9
def vig (N : Nat) (k : Y2 → Y2 → Z3) : Nat → Int → Y2 → Y5 → Y2 → Int → Z3
  | 0, _, _, _, _, _ => none
  | m + 1, n0, t4, leq5, p12, y13 => vmb (vup N (vig N k m) k) k n0 t4 leq5 p12 y13
def vcf (N : Nat) (n0 : Int) (t4 : Y2) (leq5 : Y5) (p12 : Y2) (y13 : Int) : Z3 := vig N (vcn) N n0 t4 leq5 p12 y13
def veh (N : Nat) (n0 : Int) (t4 : Y2) (leq5 : Y5) (z9 : Int) : Z3 := vgb N (vcq (vcf N)) N n0 t4 leq5 z9
def vqp (N : Nat) (n0 : Int) (pairs1 : Z12) (t4 : Y2) (leq5 : Y5) (i8 : Int) : Z3 := vty N (vqo (veh N)) N n0 pairs1 t4 leq5 i8
def vauo (N : Nat) (n0 : Int) (pairs1 : Z12) (t4 : Y2) (leq5 : Y5) (x6 : Int) : Z3 := vvc N (vqm (vqp N)) N n0 pairs1 t4 leq5 x6
def zz9 (N : Nat) (n_0 : Int) (pairs_1 : Z12) : Z3 := vbbq (vauo N) n_0 pairs_1
def S_zz9 : Sig := { a := (.pair I (.pair (.sl (.pair I (.pair I .unit))) .unit)), md := [0, 0], mf := [], m := .unit, r := (.pair (.sl (.sl I)) .unit), rf := (.p (.o (.o .i)) .i), f := fun x => zz9 big x.1 x.2.1 }
def A_zz9 : Cfg := mkCfg tab [] [(6, [.as I .i, .as (.sl (.pair I (.pair I .unit))) .i, .drop, .drop, .as y1 (.o (.p (.o (.o .i)) .i)), .as (.sl (.sl .bool)) (.o (.o .i)), .as I .i]), (17, [.as I .i, .as (.sl (.pair I (.pair I .unit))) .i, .drop, .drop, .as y1 (.o (.p (.o (.o .i)) .i)), .as (.sl (.sl .bool)) (.o (.o .i))]), (18, [.as I .i, .as (.sl (.pair I (.pair I .unit))) .i, .drop, .drop, .as y1 (.o (.p (.o (.o .i)) .i)), .as (.sl (.sl .bool)) (.o (.o .i)), .drop, .drop, .as I .i]), (25, [.as I .i, .drop, .drop, .drop, .as y1 (.o (.p (.o (.o .i)) .i)), .as (.sl (.sl .bool)) (.o (.o .i))]), (26, [.as I .i, .drop, .drop, .drop, .as y1 (.o (.p (.o (.o .i)) .i)), .as (.sl (.sl .bool)) (.o (.o .i)), .drop, .drop, .drop, .as I .i]), (32, [.as I .i, .drop, .drop, .drop, .as y1 (.o (.p (.o (.o .i)) .i)), .as (.sl (.sl .bool)) (.o (.o .i)), .drop, .drop, .drop, .as I .i, .as I .i]), (45, [.as I .i, .drop, .drop, .drop, .as y1 (.o (.p (.o (.o .i)) .i)), .as (.sl (.sl .bool)) (.o (.o .i))]), (48, [.as I .i, .drop, .drop, .drop, .as y1 (.o (.p (.o (.o .i)) .i)), .as (.sl (.sl .bool)) (.o (.o .i)), .drop, .drop, .drop, .drop, .drop, .drop, .as y1 (.o (.p (.o (.o .i)) .i)), .as I .i]), (38, [.as I .i, .drop, .drop, .drop, .as y1 (.o (.p (.o (.o .i)) .i)), .as (.sl (.sl .bool)) (.o (.o .i)), .drop, .drop, .drop, .as I .i, .as I .i, .as I .i]), (29, [.as I .i, .drop, .drop, .drop, .as y1 (.o (.p (.o (.o .i)) .i)), .as (.sl (.sl .bool)) (.o (.o .i)), .drop, .drop, .drop, .as I .i]), (56, [.as I .i, .drop, .drop, .drop, .as y1 (.o (.p (.o (.o .i)) .i)), .as (.sl (.sl .bool)) (.o (.o .i)), .drop, .drop, .drop, .drop, .drop, .drop, .as y1 (.o (.p (.o (.o .i)) .i)), .as I .i, .as (.sl I) (.o .i), .as I .i]), (67, [.drop, .drop, .drop, .drop, .as y1 (.o (.p (.o (.o .i)) .i)), .drop, .drop, .drop, .drop, .drop, .drop, .drop, .as y1 (.o (.p (.o (.o .i)) .i))]), (35, [.as I .i, .drop, .drop, .drop, .as y1 (.o (.p (.o (.o .i)) .i)), .as (.sl (.sl .bool)) (.o (.o .i)), .drop, .drop, .drop, .as I .i, .as I .i]), (65, [.as I .i, .drop, .drop, .drop, .as y1 (.o (.p (.o (.o .i)) .i)), .as (.sl (.sl .bool)) (.o (.o .i)), .drop, .drop, .drop, .drop, .drop, .drop, .as y1 (.o (.p (.o (.o .i)) .i)), .as I .i, .as (.sl I) (.o .i)])]
noncomputable def vuf (N n : Nat) (K : Ex → St → Z3) (n0 : Int) (pairs1 : Z12) (t4 : Y2) (leq5 : Y5) (x6 : Int) : Z3 := iter ((A_zz9).shape 6) (run (A_zz9) N (codeAt Try.f98 [1, 1, 0, 1, 0, 0])) n ([.val I .i n0, .val (.sl (.pair I (.pair I .unit))) .i pairs1, .u, .u, .val y1 (.o (.p (.o (.o .i)) .i)) t4, .val (.sl (.sl .bool)) (.o (.o .i)) leq5, .val I .i x6] ++ List.replicate 121 .u) K
noncomputable def vtn (N n : Nat) (K : Ex → St → Z3) (n0 : Int) (pairs1 : Z12) (t4 : Y2) (leq5 : Y5) (i8 : Int) : Z3 := iter ((A_zz9).shape 18) (run (A_zz9) N (codeAt Try.f98 [1, 1, 1, 0, 1, 0, 0])) n ([.val I .i n0, .val (.sl (.pair I (.pair I .unit))) .i pairs1, .u, .u, .val y1 (.o (.p (.o (.o .i)) .i)) t4, .val (.sl (.sl .bool)) (.o (.o .i)) leq5, .u, .u, .val I .i i8] ++ List.replicate 119 .u) K
noncomputable def vjd (N n : Nat) (K : Ex → St → Z3) (n0 : Int) (t4 : Y2) (leq5 : Y5) (z9 : Int) : Z3 := iter ((A_zz9).shape 26) (run (A_zz9) N (codeAt Try.f98 [1, 1, 1, 1, 0, 1, 0, 0])) n ([.val I .i n0, .u, .u, .u, .val y1 (.o (.p (.o (.o .i)) .i)) t4, .val (.sl (.sl .bool)) (.o (.o .i)) leq5, .u, .u, .u, .val I .i z9] ++ List.replicate 118 .u) K
noncomputable def vfx (N n : Nat) (K : Ex → St → Z3) (n0 : Int) (t4 : Y2) (leq5 : Y5) (z9 x10 : Int) : Z3 := iter ((A_zz9).shape 32) (run (A_zz9) N (codeAt Try.f98 [1, 1, 1, 1, 0, 1, 0, 0, 1, 0, 0, 1, 0, 0])) n ([.val I .i n0, .u, .u, .u, .val y1 (.o (.p (.o (.o .i)) .i)) t4, .val (.sl (.sl .bool)) (.o (.o .i)) leq5, .u, .u, .u, .val I .i z9, .val I .i x10] ++ List.replicate 117 .u) K
noncomputable def vkd (N n : Nat) (K : Ex → St → Z3) (n0 : Int) (t4 : Y2) (leq5 : Y5) (p12 : Y2) (y13 : Int) : Z3 := iter ((A_zz9).shape 48) (run (A_zz9) N (codeAt Try.f98 [1, 1, 1, 1, 1, 1, 0, 1, 0, 0])) n ([.val I .i n0, .u, .u, .u, .val y1 (.o (.p (.o (.o .i)) .i)) t4, .val (.sl (.sl .bool)) (.o (.o .i)) leq5, .u, .u, .u, .u, .u, .u, .val y1 (.o (.p (.o (.o .i)) .i)) p12, .val I .i y13] ++ List.replicate 114 .u) K
noncomputable def vns (N n : Nat) (K : Ex → St → Z3) (n0 : Int) (t4 : Y2) (leq5 : Y5) (z9 x10 y11 : Int) : Z3 := iter ((A_zz9).shape 38) (run (A_zz9) N (codeAt Try.f98 [1, 1, 1, 1, 0, 1, 0, 0, 1, 0, 0, 1, 0, 0, 1, 0, 0, 1, 0, 0])) n ([.val I .i n0, .u, .u, .u, .val y1 (.o (.p (.o (.o .i)) .i)) t4, .val (.sl (.sl .bool)) (.o (.o .i)) leq5, .u, .u, .u, .val I .i z9, .val I .i x10, .val I .i y11] ++ List.replicate 116 .u) K
noncomputable def vpk (N n : Nat) (K : Ex → St → Z3) (n0 : Int) (t4 : Y2) (leq5 : Y5) (p12 : Y2) (y13 : Int) (below14 : Y4) (x15 : Int) : Z3 := iter ((A_zz9).shape 56) (run (A_zz9) N (codeAt Try.f98 [1, 1, 1, 1, 1, 1, 0, 1, 0, 0, 1, 0, 0, 1, 0, 1, 0, 0])) n ([.val I .i n0, .u, .u, .u, .val y1 (.o (.p (.o (.o .i)) .i)) t4, .val (.sl (.sl .bool)) (.o (.o .i)) leq5, .u, .u, .u, .u, .u, .u, .val y1 (.o (.p (.o (.o .i)) .i)) p12, .val I .i y13, .val (.sl I) (.o .i) below14, .val I .i x15] ++ List.replicate 112 .u) K
noncomputable abbrev vbv : Ex → St → Z3 := finish (A_zz9) S_zz9 Try.f98.results.toList
noncomputable abbrev vxg (kX : St → Z3) : Int → Z12 → Y2 → Y5 → Z3 := fun (n0 : Int) (pairs1 : Z12) (t4 : Y2) (leq5 : Y5) => kX ([.val I .i n0, .val (.sl (.pair I (.pair I .unit))) .i pairs1, .u, .u, .val y1 (.o (.p (.o (.o .i)) .i)) t4, .val (.sl (.sl .bool)) (.o (.o .i)) leq5] ++ List.replicate 122 .u)
noncomputable abbrev vady (kX : St → Z3) (kO : Nat → St → Z3) : Ex → St → Z3 := exK vbv 0 ((A_zz9).shape 17) kX kO
noncomputable abbrev vxm (kX : St → Z3) : Int → Y2 → Y5 → Z3 := fun (n0 : Int) (t4 : Y2) (leq5 : Y5) => kX ([.val I .i n0, .u, .u, .u, .val y1 (.o (.p (.o (.o .i)) .i)) t4, .val (.sl (.sl .bool)) (.o (.o .i)) leq5] ++ List.replicate 122 .u)
noncomputable abbrev vaga (kX : St → Z3) (kO : Nat → St → Z3) : Ex → St → Z3 := exK vbv 2 ((A_zz9).shape 25) kX kO
noncomputable abbrev vhw (kX : St → Z3) : Int → Y2 → Y5 → Z3 := fun (n0 : Int) (t4 : Y2) (leq5 : Y5) => kX ([.val I .i n0, .u, .u, .u, .val y1 (.o (.p (.o (.o .i)) .i)) t4, .val (.sl (.sl .bool)) (.o (.o .i)) leq5] ++ List.replicate 122 .u)
noncomputable abbrev vih (kX : St → Z3) (kO : Nat → St → Z3) : Ex → St → Z3 := exK vbv 4 ((A_zz9).shape 45) kX kO
noncomputable abbrev vho (kX : St → Z3) : Int → Y2 → Y5 → Int → Z3 := fun (n0 : Int) (t4 : Y2) (leq5 : Y5) (z9 : Int) => kX ([.val I .i n0, .u, .u, .u, .val y1 (.o (.p (.o (.o .i)) .i)) t4, .val (.sl (.sl .bool)) (.o (.o .i)) leq5, .u, .u, .u, .val I .i z9] ++ List.replicate 118 .u)
noncomputable abbrev vhs (kX : St → Z3) (kO : Nat → St → Z3) : Ex → St → Z3 := exK vbv 6 ((A_zz9).shape 29) kX kO
noncomputable abbrev vil (kX : St → Z3) : Y2 → Y2 → Z3 := fun (t4 p12 : Y2) => kX ([.u, .u, .u, .u, .val y1 (.o (.p (.o (.o .i)) .i)) t4, .u, .u, .u, .u, .u, .u, .u, .val y1 (.o (.p (.o (.o .i)) .i)) p12] ++ List.replicate 115 .u)
noncomputable abbrev vhb (kX : St → Z3) (kO : Nat → St → Z3) : Ex → St → Z3 := exK vbv 10 ((A_zz9).shape 67) kX kO
noncomputable abbrev vvb (kX : St → Z3) : Int → Y2 → Y5 → Int → Int → Z3 := fun (n0 : Int) (t4 : Y2) (leq5 : Y5) (z9 x10 : Int) => kX ([.val I .i n0, .u, .u, .u, .val y1 (.o (.p (.o (.o .i)) .i)) t4, .val (.sl (.sl .bool)) (.o (.o .i)) leq5, .u, .u, .u, .val I .i z9, .val I .i x10] ++ List.replicate 117 .u)
noncomputable abbrev vyl (kX : St → Z3) (kO : Nat → St → Z3) : Ex → St → Z3 := exK vbv 8 ((A_zz9).shape 35) kX kO
noncomputable abbrev vuk (kX : St → Z3) : Int → Y2 → Y5 → Y2 → Int → Y4 → Z3 := fun (n0 : Int) (t4 : Y2) (leq5 : Y5) (p12 : Y2) (y13 : Int) (below14 : Y4) => kX ([.val I .i n0, .u, .u, .u, .val y1 (.o (.p (.o (.o .i)) .i)) t4, .val (.sl (.sl .bool)) (.o (.o .i)) leq5, .u, .u, .u, .u, .u, .u, .val y1 (.o (.p (.o (.o .i)) .i)) p12, .val I .i y13, .val (.sl I) (.o .i) below14] ++ List.replicate 113 .u)
noncomputable abbrev vzv (kX : St → Z3) (kO : Nat → St → Z3) : Ex → St → Z3 := exK vbv 12 ((A_zz9).shape 65) kX kO
theorem vbhg (N m : Nat) (kX : St → Z3) (kO : Nat → St → Z3) (n0 : Int) (pairs1 : Z12) (t4 : Y2) (leq5 : Y5) (x6 : Int) : vuf N (m + 1) (vady kX kO) n0 pairs1 t4 leq5 x6 = vtu (vuf N m (vady kX kO)) (vxg kX) n0 pairs1 t4 leq5 x6 := by kernel_rfl
theorem vaop (N : Nat) (kX : St → Z3) (kO : Nat → St → Z3) : ∀ (n : Nat) (n0 : Int) (pairs1 : Z12) (t4 : Y2) (leq5 : Y5) (x6 : Int), vuf N n (vady kX kO) n0 pairs1 t4 leq5 x6 = vvc N (vxg kX) n n0 pairs1 t4 leq5 x6
  | 0, _, _, _, _, _ => rfl
  | m + 1, n0, pairs1, t4, leq5, x6 => by
    have hrec : vuf N m (vady kX kO) = (vvc N (vxg kX) m) := (funext fun n0 => (funext fun pairs1 => (funext fun t4 => (funext fun leq5 => (funext fun x6 => vaop N kX kO m n0 pairs1 t4 leq5 x6)))))
    refine (vbhg N m kX kO n0 pairs1 t4 leq5 x6).trans ?_
    rw [hrec]
    rfl
noncomputable abbrev vaun (N : Nat) : Ex → St → Z3 := (blockK 0 (seqK ((A_zz9).shape 17) (gated ((A_zz9).shape 500008).isSome N (run (A_zz9) N (codeAt Try.f98 [1, 1, 1]))) vbv))
theorem vbgk (N m : Nat) (kX : St → Z3) (kO : Nat → St → Z3) (n0 : Int) (pairs1 : Z12) (t4 : Y2) (leq5 : Y5) (i8 : Int) : vtn N (m + 1) (vaga kX kO) n0 pairs1 t4 leq5 i8 = vsq (vtn N m (vaga kX kO)) (vxm kX) n0 pairs1 t4 leq5 i8 := by kernel_rfl
theorem vaoj (N : Nat) (kX : St → Z3) (kO : Nat → St → Z3) : ∀ (n : Nat) (n0 : Int) (pairs1 : Z12) (t4 : Y2) (leq5 : Y5) (i8 : Int), vtn N n (vaga kX kO) n0 pairs1 t4 leq5 i8 = vty N (vxm kX) n n0 pairs1 t4 leq5 i8
  | 0, _, _, _, _, _ => rfl
  | m + 1, n0, pairs1, t4, leq5, i8 => by
    have hrec : vtn N m (vaga kX kO) = (vty N (vxm kX) m) := (funext fun n0 => (funext fun pairs1 => (funext fun t4 => (funext fun leq5 => (funext fun i8 => vaoj N kX kO m n0 pairs1 t4 leq5 i8)))))
    refine (vbgk N m kX kO n0 pairs1 t4 leq5 i8).trans ?_
    rw [hrec]
    rfl
noncomputable abbrev vauy (N : Nat) : Ex → St → Z3 := (blockK 2 (seqK ((A_zz9).shape 25) (gated ((A_zz9).shape 500012).isSome N (run (A_zz9) N (codeAt Try.f98 [1, 1, 1, 1]))) vbv))
theorem vbdi (N m : Nat) (kX : St → Z3) (kO : Nat → St → Z3) (n0 : Int) (t4 : Y2) (leq5 : Y5) (z9 x10 y11 : Int) : vns N (m + 1) (vyl kX kO) n0 t4 leq5 z9 x10 y11 = vnt (vns N m (vyl kX kO)) (vvb kX) n0 t4 leq5 z9 x10 y11 := by kernel_rfl
theorem vacu (N : Nat) (kX : St → Z3) (kO : Nat → St → Z3) : ∀ (n : Nat) (n0 : Int) (t4 : Y2) (leq5 : Y5) (z9 x10 y11 : Int), vns N n (vyl kX kO) n0 t4 leq5 z9 x10 y11 = vnx N (vvb kX) n n0 t4 leq5 z9 x10 y11
  | 0, _, _, _, _, _, _ => rfl
  | m + 1, n0, t4, leq5, z9, x10, y11 => by
    have hrec : vns N m (vyl kX kO) = (vnx N (vvb kX) m) := (funext fun n0 => (funext fun t4 => (funext fun leq5 => (funext fun z9 => (funext fun x10 => (funext fun y11 => vacu N kX kO m n0 t4 leq5 z9 x10 y11))))))
    refine (vbdi N m kX kO n0 t4 leq5 z9 x10 y11).trans ?_
    rw [hrec]
    rfl
noncomputable abbrev vamr (N m : Nat) (kX : St → Z3) (kO : Nat → St → Z3) : Ex → St → Z3 := (blockK 8 (blockK 7 (seqK ((A_zz9).shape 35) (gated ((A_zz9).shape 500017).isSome N (run (A_zz9) N (codeAt Try.f98 [1, 1, 1, 1, 0, 1, 0, 0, 1, 0, 0, 1, 0, 0, 1, 1]))) (iterK ((A_zz9).shape 32) (run (A_zz9) N (codeAt Try.f98 [1, 1, 1, 1, 0, 1, 0, 0, 1, 0, 0, 1, 0, 0])) m (vhs kX kO)))))
noncomputable abbrev valm (N m : Nat) (kX : St → Z3) (kO : Nat → St → Z3) : St → Z3 := fun st' => run (A_zz9) N (codeAt Try.f98 [1, 1, 1, 1, 0, 1, 0, 0, 1, 0, 0, 1, 0, 0, 1, 1]) st' (iterK ((A_zz9).shape 32) (run (A_zz9) N (codeAt Try.f98 [1, 1, 1, 1, 0, 1, 0, 0, 1, 0, 0, 1, 0, 0])) m (vhs kX kO))
theorem vawm (N m : Nat) (kX : St → Z3) (kO : Nat → St → Z3) (n0 : Int) (t4 : Y2) (leq5 : Y5) (z9 x10 : Int) : vvb (valm N m kX kO) n0 t4 leq5 z9 x10 = vhn (vfx N m (vhs kX kO)) n0 t4 leq5 z9 x10 := by kernel_rfl
theorem vbje (N m : Nat) (kX : St → Z3) (kO : Nat → St → Z3) (recF : Int → Y2 → Y5 → Int → Int → Z3) (hrec : vfx N m (vhs kX kO) = recF) (n0 : Int) (t4 : Y2) (leq5 : Y5) (z9 x10 y11 : Int) : vns N N (vamr N m kX kO) n0 t4 leq5 z9 x10 y11 = vuu N recF (vho kX) n0 t4 leq5 z9 x10 y11 :=
  have h : vvb (valm N m kX kO) = (vhn recF) := (funext fun n0 => (funext fun t4 => (funext fun leq5 => (funext fun z9 => (funext fun x10 => (vawm N m kX kO n0 t4 leq5 z9 x10).trans (by rw [hrec]))))))
  ((vad (fun st => by kernel_rfl) (fun st => by kernel_rfl)).trans (vacu N (valm N m kX kO) (fun j st => (vamr N m kX kO) (.exit j) st) N n0 t4 leq5 z9 x10 y11)).trans (congrArg (fun k => vnx N k N n0 t4 leq5 z9 x10 y11) h)
theorem vbal (N m : Nat) (kX : St → Z3) (kO : Nat → St → Z3) (n0 : Int) (t4 : Y2) (leq5 : Y5) (z9 x10 : Int) : vfx N (m + 1) (vhs kX kO) n0 t4 leq5 z9 x10 = vmk (vns N N (vamr N m kX kO)) (vho kX) n0 t4 leq5 z9 x10 := by kernel_rfl
theorem vafu (N : Nat) (kX : St → Z3) (kO : Nat → St → Z3) : ∀ (n : Nat) (n0 : Int) (t4 : Y2) (leq5 : Y5) (z9 x10 : Int), vfx N n (vhs kX kO) n0 t4 leq5 z9 x10 = viq N (vho kX) n n0 t4 leq5 z9 x10
  | 0, _, _, _, _, _ => rfl
  | m + 1, n0, t4, leq5, z9, x10 => by
    have hrec : vfx N m (vhs kX kO) = (viq N (vho kX) m) := (funext fun n0 => (funext fun t4 => (funext fun leq5 => (funext fun z9 => (funext fun x10 => vafu N kX kO m n0 t4 leq5 z9 x10)))))
    refine (vbal N m kX kO n0 t4 leq5 z9 x10).trans ?_
    rw [(funext fun n0 => (funext fun t4 => (funext fun leq5 => (funext fun z9 => (funext fun x10 => (funext fun y11 => vbje N m kX kO (viq N (vho kX) m) hrec n0 t4 leq5 z9 x10 y11))))))]
    rfl
noncomputable abbrev vajh (N m : Nat) (kX : St → Z3) (kO : Nat → St → Z3) : Ex → St → Z3 := (blockK 6 (blockK 5 (seqK ((A_zz9).shape 29) (gated ((A_zz9).shape 500014).isSome N (run (A_zz9) N (codeAt Try.f98 [1, 1, 1, 1, 0, 1, 0, 0, 1, 1]))) (iterK ((A_zz9).shape 26) (run (A_zz9) N (codeAt Try.f98 [1, 1, 1, 1, 0, 1, 0, 0])) m (vih kX kO)))))
noncomputable abbrev vaiq (N m : Nat) (kX : St → Z3) (kO : Nat → St → Z3) : St → Z3 := fun st' => run (A_zz9) N (codeAt Try.f98 [1, 1, 1, 1, 0, 1, 0, 0, 1, 1]) st' (iterK ((A_zz9).shape 26) (run (A_zz9) N (codeAt Try.f98 [1, 1, 1, 1, 0, 1, 0, 0])) m (vih kX kO))
theorem vayi (N m : Nat) (kX : St → Z3) (kO : Nat → St → Z3) (n0 : Int) (t4 : Y2) (leq5 : Y5) (z9 : Int) : vho (vaiq N m kX kO) n0 t4 leq5 z9 = vcy (vjd N m (vih kX kO)) n0 t4 leq5 z9 := by kernel_rfl
theorem vblt (N m : Nat) (kX : St → Z3) (kO : Nat → St → Z3) (recF : Int → Y2 → Y5 → Int → Z3) (hrec : vjd N m (vih kX kO) = recF) (n0 : Int) (t4 : Y2) (leq5 : Y5) (z9 x10 : Int) : vfx N N (vajh N m kX kO) n0 t4 leq5 z9 x10 = vum N recF (vhw kX) n0 t4 leq5 z9 x10 :=
  have h : vho (vaiq N m kX kO) = (vcy recF) := (funext fun n0 => (funext fun t4 => (funext fun leq5 => (funext fun z9 => (vayi N m kX kO n0 t4 leq5 z9).trans (by rw [hrec])))))
  ((vad (fun st => by kernel_rfl) (fun st => by kernel_rfl)).trans (vafu N (vaiq N m kX kO) (fun j st => (vajh N m kX kO) (.exit j) st) N n0 t4 leq5 z9 x10)).trans (congrArg (fun k => viq N k N n0 t4 leq5 z9 x10) h)
theorem vbdx (N m : Nat) (kX : St → Z3) (kO : Nat → St → Z3) (n0 : Int) (t4 : Y2) (leq5 : Y5) (z9 : Int) : vjd N (m + 1) (vih kX kO) n0 t4 leq5 z9 = vlu (vfx N N (vajh N m kX kO)) (vhw kX) n0 t4 leq5 z9 := by kernel_rfl
theorem vagh (N : Nat) (kX : St → Z3) (kO : Nat → St → Z3) : ∀ (n : Nat) (n0 : Int) (t4 : Y2) (leq5 : Y5) (z9 : Int), vjd N n (vih kX kO) n0 t4 leq5 z9 = vgb N (vhw kX) n n0 t4 leq5 z9
  | 0, _, _, _, _ => rfl
  | m + 1, n0, t4, leq5, z9 => by
    have hrec : vjd N m (vih kX kO) = (vgb N (vhw kX) m) := (funext fun n0 => (funext fun t4 => (funext fun leq5 => (funext fun z9 => vagh N kX kO m n0 t4 leq5 z9))))
    refine (vbdx N m kX kO n0 t4 leq5 z9).trans ?_
    rw [(funext fun n0 => (funext fun t4 => (funext fun leq5 => (funext fun z9 => (funext fun x10 => vblt N m kX kO (vgb N (vhw kX) m) hrec n0 t4 leq5 z9 x10)))))]
    rfl
noncomputable abbrev vahm (N : Nat) : Ex → St → Z3 := (blockK 4 (seqK ((A_zz9).shape 45) (gated ((A_zz9).shape 500022).isSome N (run (A_zz9) N (codeAt Try.f98 [1, 1, 1, 1, 1]))) vbv))
theorem vbcy (N m : Nat) (kX : St → Z3) (kO : Nat → St → Z3) (n0 : Int) (t4 : Y2) (leq5 : Y5) (p12 : Y2) (y13 : Int) (below14 : Y4) (x15 : Int) : vpk N (m + 1) (vzv kX kO) n0 t4 leq5 p12 y13 below14 x15 = vnw (vpk N m (vzv kX kO)) (vuk kX) n0 t4 leq5 p12 y13 below14 x15 := by kernel_rfl
theorem vagc (N : Nat) (kX : St → Z3) (kO : Nat → St → Z3) : ∀ (n : Nat) (n0 : Int) (t4 : Y2) (leq5 : Y5) (p12 : Y2) (y13 : Int) (below14 : Y4) (x15 : Int), vpk N n (vzv kX kO) n0 t4 leq5 p12 y13 below14 x15 = vno N (vuk kX) n n0 t4 leq5 p12 y13 below14 x15
  | 0, _, _, _, _, _, _, _ => rfl
  | m + 1, n0, t4, leq5, p12, y13, below14, x15 => by
    have hrec : vpk N m (vzv kX kO) = (vno N (vuk kX) m) := (funext fun n0 => (funext fun t4 => (funext fun leq5 => (funext fun p12 => (funext fun y13 => (funext fun below14 => (funext fun x15 => vagc N kX kO m n0 t4 leq5 p12 y13 below14 x15)))))))
    refine (vbcy N m kX kO n0 t4 leq5 p12 y13 below14 x15).trans ?_
    rw [hrec]
    rfl
noncomputable abbrev vain (N m : Nat) (kX : St → Z3) (kO : Nat → St → Z3) : Ex → St → Z3 := (blockK 12 (seqK ((A_zz9).shape 65) (gated ((A_zz9).shape 500032).isSome N (run (A_zz9) N (codeAt Try.f98 [1, 1, 1, 1, 1, 1, 0, 1, 0, 0, 1, 0, 0, 1, 1]))) (blockK 11 (seqK ((A_zz9).shape 51) (gated ((A_zz9).shape 500025).isSome N (run (A_zz9) N (codeAt Try.f98 [1, 1, 1, 1, 1, 1, 0, 1, 0, 0, 1, 1]))) (iterK ((A_zz9).shape 48) (run (A_zz9) N (codeAt Try.f98 [1, 1, 1, 1, 1, 1, 0, 1, 0, 0])) m (vhb kX kO))))))
noncomputable abbrev valu (N m : Nat) (kX : St → Z3) (kO : Nat → St → Z3) : St → Z3 := fun st' => run (A_zz9) N (codeAt Try.f98 [1, 1, 1, 1, 1, 1, 0, 1, 0, 0, 1, 0, 0, 1, 1]) st' (blockK 11 (seqK ((A_zz9).shape 51) (gated ((A_zz9).shape 500025).isSome N (run (A_zz9) N (codeAt Try.f98 [1, 1, 1, 1, 1, 1, 0, 1, 0, 0, 1, 1]))) (iterK ((A_zz9).shape 48) (run (A_zz9) N (codeAt Try.f98 [1, 1, 1, 1, 1, 1, 0, 1, 0, 0])) m (vhb kX kO))))
theorem vaxr (N m : Nat) (kX : St → Z3) (kO : Nat → St → Z3) (n0 : Int) (t4 : Y2) (leq5 : Y5) (p12 : Y2) (y13 : Int) (below14 : Y4) : vuk (valu N m kX kO) n0 t4 leq5 p12 y13 below14 = vjt (vkd N m (vhb kX kO)) n0 t4 leq5 p12 y13 below14 := by kernel_rfl
theorem vbjw (N m : Nat) (kX : St → Z3) (kO : Nat → St → Z3) (recF : Int → Y2 → Y5 → Y2 → Int → Z3) (hrec : vkd N m (vhb kX kO) = recF) (n0 : Int) (t4 : Y2) (leq5 : Y5) (p12 : Y2) (y13 : Int) (below14 : Y4) (x15 : Int) : vpk N N (vain N m kX kO) n0 t4 leq5 p12 y13 below14 x15 = vup N recF (vil kX) n0 t4 leq5 p12 y13 below14 x15 :=
  have h : vuk (valu N m kX kO) = (vjt recF) := (funext fun n0 => (funext fun t4 => (funext fun leq5 => (funext fun p12 => (funext fun y13 => (funext fun below14 => (vaxr N m kX kO n0 t4 leq5 p12 y13 below14).trans (by rw [hrec])))))))
  ((vad (fun st => by kernel_rfl) (fun st => by kernel_rfl)).trans (vagc N (valu N m kX kO) (fun j st => (vain N m kX kO) (.exit j) st) N n0 t4 leq5 p12 y13 below14 x15)).trans (congrArg (fun k => vno N k N n0 t4 leq5 p12 y13 below14 x15) h)
theorem vbdp (N m : Nat) (kX : St → Z3) (kO : Nat → St → Z3) (n0 : Int) (t4 : Y2) (leq5 : Y5) (p12 : Y2) (y13 : Int) : vkd N (m + 1) (vhb kX kO) n0 t4 leq5 p12 y13 = vmb (vpk N N (vain N m kX kO)) (vil kX) n0 t4 leq5 p12 y13 := by kernel_rfl
theorem vacm (N : Nat) (kX : St → Z3) (kO : Nat → St → Z3) : ∀ (n : Nat) (n0 : Int) (t4 : Y2) (leq5 : Y5) (p12 : Y2) (y13 : Int), vkd N n (vhb kX kO) n0 t4 leq5 p12 y13 = vig N (vil kX) n n0 t4 leq5 p12 y13
  | 0, _, _, _, _, _ => rfl
  | m + 1, n0, t4, leq5, p12, y13 => by
    have hrec : vkd N m (vhb kX kO) = (vig N (vil kX) m) := (funext fun n0 => (funext fun t4 => (funext fun leq5 => (funext fun p12 => (funext fun y13 => vacm N kX kO m n0 t4 leq5 p12 y13)))))
    refine (vbdp N m kX kO n0 t4 leq5 p12 y13).trans ?_
    rw [(funext fun n0 => (funext fun t4 => (funext fun leq5 => (funext fun p12 => (funext fun y13 => (funext fun below14 => (funext fun x15 => vbjw N m kX kO (vig N (vil kX) m) hrec n0 t4 leq5 p12 y13 below14 x15)))))))]
    rfl
noncomputable abbrev vakb (N : Nat) : Ex → St → Z3 := (blockK 10 (seqK ((A_zz9).shape 67) (gated ((A_zz9).shape 500033).isSome N (run (A_zz9) N (codeAt Try.f98 [1, 1, 1, 1, 1, 1, 1]))) vbv))
noncomputable abbrev vaih (N : Nat) : St → Z3 := fun st' => run (A_zz9) N (codeAt Try.f98 [1, 1, 1, 1, 1, 1, 1]) st' vbv
theorem vavf (N : Nat) (t4 p12 : Y2) : vil (vaih N) t4 p12 = vcn t4 p12 := by kernel_rfl
theorem vbiu (N : Nat) (n0 : Int) (t4 : Y2) (leq5 : Y5) (p12 : Y2) (y13 : Int) : vkd N N (vakb N) n0 t4 leq5 p12 y13 = vcf N n0 t4 leq5 p12 y13 :=
  have h : vil (vaih N) = (vcn) := (funext fun t4 => (funext fun p12 => vavf N t4 p12))
  ((vad (fun st => by kernel_rfl) (fun st => by kernel_rfl)).trans (vacm N (vaih N) (fun j st => (vakb N) (.exit j) st) N n0 t4 leq5 p12 y13)).trans (congrArg (fun k => vig N k N n0 t4 leq5 p12 y13) h)
noncomputable abbrev vale (N : Nat) : St → Z3 := fun st' => run (A_zz9) N (codeAt Try.f98 [1, 1, 1, 1, 1]) st' vbv
theorem vaxc (N : Nat) (n0 : Int) (t4 : Y2) (leq5 : Y5) : vhw (vale N) n0 t4 leq5 = vcq (vkd N N (vakb N)) n0 t4 leq5 := by kernel_rfl
theorem vbjh (N : Nat) (n0 : Int) (t4 : Y2) (leq5 : Y5) (z9 : Int) : vjd N N (vahm N) n0 t4 leq5 z9 = veh N n0 t4 leq5 z9 :=
  have h : vhw (vale N) = (vcq (vcf N)) := (funext fun n0 => (funext fun t4 => (funext fun leq5 => (vaxc N n0 t4 leq5).trans (by rw [(funext fun n0 => (funext fun t4 => (funext fun leq5 => (funext fun p12 => (funext fun y13 => vbiu N n0 t4 leq5 p12 y13)))))]))))
  ((vad (fun st => by kernel_rfl) (fun st => by kernel_rfl)).trans (vagh N (vale N) (fun j st => (vahm N) (.exit j) st) N n0 t4 leq5 z9)).trans (congrArg (fun k => vgb N k N n0 t4 leq5 z9) h)
noncomputable abbrev vasx (N : Nat) : St → Z3 := fun st' => run (A_zz9) N (codeAt Try.f98 [1, 1, 1, 1]) st' vbv
theorem vbca (N : Nat) (n0 : Int) (t4 : Y2) (leq5 : Y5) : vxm (vasx N) n0 t4 leq5 = vqo (vjd N N (vahm N)) n0 t4 leq5 := by kernel_rfl
theorem vbpu (N : Nat) (n0 : Int) (pairs1 : Z12) (t4 : Y2) (leq5 : Y5) (i8 : Int) : vtn N N (vauy N) n0 pairs1 t4 leq5 i8 = vqp N n0 pairs1 t4 leq5 i8 :=
  have h : vxm (vasx N) = (vqo (veh N)) := (funext fun n0 => (funext fun t4 => (funext fun leq5 => (vbca N n0 t4 leq5).trans (by rw [(funext fun n0 => (funext fun t4 => (funext fun leq5 => (funext fun z9 => vbjh N n0 t4 leq5 z9))))]))))
  ((vad (fun st => by kernel_rfl) (fun st => by kernel_rfl)).trans (vaoj N (vasx N) (fun j st => (vauy N) (.exit j) st) N n0 pairs1 t4 leq5 i8)).trans (congrArg (fun k => vty N k N n0 pairs1 t4 leq5 i8) h)
noncomputable abbrev vask (N : Nat) : St → Z3 := fun st' => run (A_zz9) N (codeAt Try.f98 [1, 1, 1]) st' vbv
theorem vbac (N : Nat) (n0 : Int) (pairs1 : Z12) (t4 : Y2) (leq5 : Y5) : vxg (vask N) n0 pairs1 t4 leq5 = vqm (vtn N N (vauy N)) n0 pairs1 t4 leq5 := by kernel_rfl
theorem vboy (N : Nat) (n0 : Int) (pairs1 : Z12) (t4 : Y2) (leq5 : Y5) (x6 : Int) : vuf N N (vaun N) n0 pairs1 t4 leq5 x6 = vauo N n0 pairs1 t4 leq5 x6 :=
  have h : vxg (vask N) = (vqm (vqp N)) := (funext fun n0 => (funext fun pairs1 => (funext fun t4 => (funext fun leq5 => (vbac N n0 pairs1 t4 leq5).trans (by rw [(funext fun n0 => (funext fun pairs1 => (funext fun t4 => (funext fun leq5 => (funext fun i8 => vbpu N n0 pairs1 t4 leq5 i8)))))])))))
  ((vad (fun st => by kernel_rfl) (fun st => by kernel_rfl)).trans (vaop N (vask N) (fun j st => (vaun N) (.exit j) st) N n0 pairs1 t4 leq5 x6)).trans (congrArg (fun k => vvc N k N n0 pairs1 t4 leq5 x6) h)
theorem run0_zz9 (N : Nat) (x : (S_zz9).a.den) : runF (A_zz9) N Try.f98 S_zz9 x = (vbbq (vuf N N (vaun N)) x.1 x.2.1) := by kernel_rfl
theorem run_zz9 (N : Nat) (x : (S_zz9).a.den) : runF (A_zz9) N Try.f98 S_zz9 x = zz9 N x.1 x.2.1 := by
  refine (run0_zz9 N x).trans ?_
  rw [(funext fun n0 => (funext fun pairs1 => (funext fun t4 => (funext fun leq5 => (funext fun x6 => vboy N n0 pairs1 t4 leq5 x6)))))]
  rfl
theorem fn_zz9 : FnOk Try.prog 98 := ⟨_, Try.func98, by kernel_rfl, by kernel_rfl⟩
theorem good_zz9 : Gx.Good Try.prog 98 S_zz9 := vaa Try.func98 (of_decide_eq_true (by kernel_rfl)) fun x r h => ⟨A_zz9, big, vac tabOk, vab (show SigsOk Try.prog [] from trivial), (run_zz9 big x).trans h⟩
def vom (rec k : Y4 → Int → Int → Z5) (l0 : Y4) (n1 k5 : Int) : Z5 :=
  cond (decide (k5 < (l0.length : Int)))
  ((atI l0 k5).bind fun xq1 =>
  cond (decide (xq1 < n1))
  (rec l0 n1 (IntKind.i64.wrap (k5 + (1 : Int))))
  (k l0 n1 k5))
  (k l0 n1 k5)
def vei (l0 : Y4) (n1 k5 : Int) : Z5 :=
  cond (decide (k5 < (l0.length : Int)))
  ((atI l0 k5).bind fun xq2 =>
  cond (decide (xq2 = n1))
  (some (l0, (())))
  ((slI l0 0 k5).bind fun xq3 =>
  (appI [] xq3).bind fun xq4 =>
  (appI xq4 [n1]).bind fun xq5 =>
  (slI l0 k5 l0.length).bind fun xq6 =>
  (appI xq5 xq6).bind fun xq7 =>
  some (xq7, (()))))
  ((slI l0 0 k5).bind fun xq8 =>
  (appI [] xq8).bind fun xq9 =>
  (appI xq9 [n1]).bind fun xq10 =>
  (slI l0 k5 l0.length).bind fun xq11 =>
  (appI xq10 xq11).bind fun xq12 =>
  some (xq12, (())))
def varq (L2 : Y4 → Int → Int → Z5) (l_0 : Y4) (n_1 : Int) : Z5 :=
  L2 l_0 n_1 (0 : Int)
def voc (N : Nat) (k : Y4 → Int → Int → Z5) : Nat → Y4 → Int → Int → Z5
  | 0, _, _, _ => none
  | m + 1, l0, n1, k5 => vom (voc N k m) k l0 n1 k5
def vahc (N : Nat) (l0 : Y4) (n1 k5 : Int) : Z5 := voc N (vei) N l0 n1 k5
def zz10 (N : Nat) (l_0 : Y4) (n_1 : Int) : Z5 := varq (vahc N) l_0 n_1
def S_zz10 : Sig := { a := (.pair (.sl I) (.pair I .unit)), md := [0, 0], mf := [], m := .unit, r := (.sl I), rf := .i, f := fun x => zz10 big x.1 x.2.1 }
def A_zz10 : Cfg := mkCfg tab [] [(4, [.as (.sl I) .i, .as I .i, .drop, .drop, .drop, .as I .i]), (9, [.as (.sl I) .i, .as I .i, .drop, .drop, .drop, .as I .i])]
noncomputable def vnh (N n : Nat) (K : Ex → St → Z5) (l0 : Y4) (n1 k5 : Int) : Z5 := iter ((A_zz10).shape 4) (run (A_zz10) N (codeAt Try.f120 [1, 1, 0, 0, 0])) n ([.val (.sl I) .i l0, .val I .i n1, .u, .u, .u, .val I .i k5] ++ List.replicate 39 .u) K
noncomputable abbrev vata : Ex → St → Z5 := finish (A_zz10) S_zz10 Try.f120.results.toList
noncomputable abbrev vsi (kX : St → Z5) : Y4 → Int → Int → Z5 := fun (l0 : Y4) (n1 k5 : Int) => kX ([.val (.sl I) .i l0, .val I .i n1, .u, .u, .u, .val I .i k5] ++ List.replicate 39 .u)
noncomputable abbrev vym (kX : St → Z5) (kO : Nat → St → Z5) : Ex → St → Z5 := exK vata 0 ((A_zz10).shape 9) kX kO
theorem vbbl (N m : Nat) (kX : St → Z5) (kO : Nat → St → Z5) (l0 : Y4) (n1 k5 : Int) : vnh N (m + 1) (vym kX kO) l0 n1 k5 = vom (vnh N m (vym kX kO)) (vsi kX) l0 n1 k5 := by kernel_rfl
theorem vafw (N : Nat) (kX : St → Z5) (kO : Nat → St → Z5) : ∀ (n : Nat) (l0 : Y4) (n1 k5 : Int), vnh N n (vym kX kO) l0 n1 k5 = voc N (vsi kX) n l0 n1 k5
  | 0, _, _, _ => rfl
  | m + 1, l0, n1, k5 => by
    have hrec : vnh N m (vym kX kO) = (voc N (vsi kX) m) := (funext fun l0 => (funext fun n1 => (funext fun k5 => vafw N kX kO m l0 n1 k5)))
    refine (vbbl N m kX kO l0 n1 k5).trans ?_
    rw [hrec]
    rfl
noncomputable abbrev vahk (N : Nat) : Ex → St → Z5 := (blockK 0 (seqK ((A_zz10).shape 9) (gated ((A_zz10).shape 500004).isSome N (run (A_zz10) N (codeAt Try.f120 [1, 1, 1]))) vata))
noncomputable abbrev vaip (N : Nat) : St → Z5 := fun st' => run (A_zz10) N (codeAt Try.f120 [1, 1, 1]) st' vata
theorem vaxn (N : Nat) (l0 : Y4) (n1 k5 : Int) : vsi (vaip N) l0 n1 k5 = vei l0 n1 k5 := by kernel_rfl
theorem vbid (N : Nat) (l0 : Y4) (n1 k5 : Int) : vnh N N (vahk N) l0 n1 k5 = vahc N l0 n1 k5 :=
  have h : vsi (vaip N) = (vei) := (funext fun l0 => (funext fun n1 => (funext fun k5 => vaxn N l0 n1 k5)))
  ((vad (fun st => by kernel_rfl) (fun st => by kernel_rfl)).trans (vafw N (vaip N) (fun j st => (vahk N) (.exit j) st) N l0 n1 k5)).trans (congrArg (fun k => voc N k N l0 n1 k5) h)
theorem run0_zz10 (N : Nat) (x : (S_zz10).a.den) : runF (A_zz10) N Try.f120 S_zz10 x = (varq (vnh N N (vahk N)) x.1 x.2.1) := by kernel_rfl
theorem run_zz10 (N : Nat) (x : (S_zz10).a.den) : runF (A_zz10) N Try.f120 S_zz10 x = zz10 N x.1 x.2.1 := by
  refine (run0_zz10 N x).trans ?_
  rw [(funext fun l0 => (funext fun n1 => (funext fun k5 => vbid N l0 n1 k5)))]
  rfl
theorem fn_zz10 : FnOk Try.prog 120 := ⟨_, Try.func120, by kernel_rfl, by kernel_rfl⟩
theorem good_zz10 : Gx.Good Try.prog 120 S_zz10 := vaa Try.func120 (of_decide_eq_true (by kernel_rfl)) fun x r h => ⟨A_zz10, big, vac tabOk, vab (show SigsOk Try.prog [] from trivial), (run_zz10 big x).trans h⟩
end Go.Proofs.Ytcdlbboeflehdaa
