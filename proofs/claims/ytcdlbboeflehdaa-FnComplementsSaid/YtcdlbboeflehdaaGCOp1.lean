import Derived.Test.YtcdlbboeflehdaaGxGen
import Derived.Test.YtcdlbboeflehdaaRows
import Derived.Test.YtcdlbboeflehdaaChecked
import Derived.KernelRfl
set_option maxRecDepth 100000
set_option linter.unusedVariables false
namespace Go.Proofs.Ytcdlbboeflehdaa
open Go Go.Gx Go.Proofs
abbrev I := Ty.int .i64
abbrev y1 : Ty := (.ptr (.pair (.sl (.sl I)) .unit))
abbrev Y1 := (Option ((List (List Bool)) × ((List (List Int)) × ((List (List Int)) × Unit))))
abbrev Y2 := ((List (List Int)) × Unit)
abbrev Y7 := (Int × ((List (Int × ((List Int) × Unit))) × Unit))
abbrev Y6 := (Int × ((List Int) × Unit))
abbrev Y3 := (List (List Int))
abbrev Y4 := (List Int)
abbrev Y5 := (List (List Bool))
abbrev Z0 := Option (Bool × Unit)
abbrev Z1 := (Int × (Int × Unit))
abbrev Z2 := Option ((Bool × (Bool × Unit)) × Unit)
abbrev Z3 := Option (Y2 × Unit)
abbrev Z4 := Option (Y2 × ((Y4 × Z1) × Unit))
abbrev Z5 := Option (Y4 × Unit)
abbrev Z6 := Option (Int × Unit)
abbrev Z7 := Option ((Y4 × (Bool × Unit)) × Unit)
abbrev Z8 := Option ((Option Y4) × Unit)
abbrev Z9 := Option ((Y5 × (Bool × Unit)) × Unit)
abbrev Z10 := Option ((Y3 × (Bool × Unit)) × Unit)
abbrev Z11 := Option (Y5 × Unit)
abbrev Z12 := (List Z1)
abbrev Z13 := (Y4 × Z1)
abbrev Z14 := Option (Z12 × Unit)
abbrev Z15 := Option (Y4 × (Z13 × Unit))
abbrev Z16 := (Y1 × Unit)
def tab : Tab := { es := [(22, (.int .u8), .i), (24, I, .i), (33, (.sl I), (.o .i)), (69, (.sl .bool), (.o .i)), (70, (.sl .bool), (.o .i)), (79, .bool, .i), (103, (.pair I (.pair I .unit)), .i)], ts := [(3, I, .i), (4, .bool, .i), (5, (.int .u8), .i), (22, (.sl (.int .u8)), (.o .i)), (24, (.sl I), (.o .i)), (33, (.sl (.sl I)), (.o (.o .i))), (35, (.pair (.sl (.sl I)) .unit), (.p (.o (.o .i)) .i)), (52, (.ptr (.pair (.sl (.int .u8)) (.pair I (.pair (.int .u64) .unit)))), (.o (.p (.o .i) .i))), (53, (.int .u64), .i), (55, (.pair (.sl (.int .u8)) (.pair I (.pair (.int .u64) .unit))), (.p (.o .i) .i)), (65, (.opt (.pair (.sl (.sl .bool)) (.pair (.sl (.sl I)) (.pair (.sl (.sl I)) .unit)))), .i), (69, (.sl (.sl .bool)), (.o (.o .i))), (70, (.sl (.sl .bool)), (.o (.o .i))), (72, (.pair (.sl (.sl .bool)) (.pair (.sl (.sl I)) (.pair (.sl (.sl I)) .unit))), (.p (.o (.o .i)) (.p (.o (.o .i)) (.p (.o (.o .i)) .i)))), (79, (.sl .bool), (.o .i)), (103, (.sl (.pair I (.pair I .unit))), (.o .i)), (105, (.pair I (.pair I .unit)), .i)], fs := [(35, [((.sl (.sl I)), (.o (.o .i)))]), (55, [((.sl (.int .u8)), (.o .i)), (I, .i), ((.int .u64), .i)]), (72, [((.sl (.sl .bool)), (.o (.o .i))), ((.sl (.sl I)), (.o (.o .i))), ((.sl (.sl I)), (.o (.o .i)))])], ars := [(105, I, .i, 2)] }
theorem tabOk : tab.chk Try.prog = true := by kernel_rfl
def vbmf (code_0 : Y4) : Z0 :=
  some (decide ((65536 : Int) < (code_0.length : Int)), (()))
def zz0 (code_0 : Y4) : Z0 := vbmf code_0
def S_zz0 : Sig := { a := (.pair (.sl (.int .u8)) .unit), md := [0], mf := [], m := .unit, r := .bool, rf := .i, f := fun x => zz0 x.1 }
def A_zz0 : Cfg := mkCfg tab [] []
theorem run_zz0 (N : Nat) (x : (S_zz0).a.den) : runF (A_zz0) N Try.f18 S_zz0 x = zz0 x.1 := by kernel_rfl
theorem fn_zz0 : FnOk Try.prog 18 := ⟨_, Try.func18, by kernel_rfl, by kernel_rfl⟩
theorem good_zz0 : Gx.Good Try.prog 18 S_zz0 := vaa Try.func18 (of_decide_eq_true (by kernel_rfl)) fun x r h => ⟨A_zz0, big, vac tabOk, vab (show SigsOk Try.prog [] from trivial), (run_zz0 big x).trans h⟩
def vbme (c_0 : Z13) : Option (Int × (Z13 × Unit)) :=
  cond (decide (c_0.2.1 < (c_0.1.length : Int)))
  ((atI c_0.1 c_0.2.1).bind fun xq1 =>
  cond (decide (((((c_0.1, (IntKind.i64.wrap (c_0.2.1 + (1 : Int)), c_0.2.2)).1, (((c_0.1, (IntKind.i64.wrap (c_0.2.1 + (1 : Int)), c_0.2.2)).2).1, (IntKind.u64.wrap ((IntKind.u64.wrap ((IntKind.u64.wrap (((((c_0.1, (IntKind.i64.wrap (c_0.2.1 + (1 : Int)), c_0.2.2)).2).2).1) * (6364136223846793005 : Int))) + (IntKind.u64.wrap (IntKind.i64.wrap xq1)))) + (550289 : Int)), (((c_0.1, (IntKind.i64.wrap (c_0.2.1 + (1 : Int)), c_0.2.2)).2).2).2))).2).1) ≤ ((((c_0.1, (IntKind.i64.wrap (c_0.2.1 + (1 : Int)), c_0.2.2)).1, (((c_0.1, (IntKind.i64.wrap (c_0.2.1 + (1 : Int)), c_0.2.2)).2).1, (IntKind.u64.wrap ((IntKind.u64.wrap ((IntKind.u64.wrap (((((c_0.1, (IntKind.i64.wrap (c_0.2.1 + (1 : Int)), c_0.2.2)).2).2).1) * (6364136223846793005 : Int))) + (IntKind.u64.wrap (IntKind.i64.wrap xq1)))) + (550289 : Int)), (((c_0.1, (IntKind.i64.wrap (c_0.2.1 + (1 : Int)), c_0.2.2)).2).2).2))).1).length : Int)))
  (some (IntKind.i64.wrap xq1, (((c_0.1, (IntKind.i64.wrap (c_0.2.1 + (1 : Int)), c_0.2.2)).1, (((c_0.1, (IntKind.i64.wrap (c_0.2.1 + (1 : Int)), c_0.2.2)).2).1, (IntKind.u64.wrap ((IntKind.u64.wrap ((IntKind.u64.wrap (((((c_0.1, (IntKind.i64.wrap (c_0.2.1 + (1 : Int)), c_0.2.2)).2).2).1) * (6364136223846793005 : Int))) + (IntKind.u64.wrap (IntKind.i64.wrap xq1)))) + (550289 : Int)), (((c_0.1, (IntKind.i64.wrap (c_0.2.1 + (1 : Int)), c_0.2.2)).2).2).2))), ())))
  ((shrI IntKind.u64 (((((c_0.1, (IntKind.i64.wrap (c_0.2.1 + (1 : Int)), c_0.2.2)).1, (((c_0.1, (IntKind.i64.wrap (c_0.2.1 + (1 : Int)), c_0.2.2)).2).1, (IntKind.u64.wrap ((IntKind.u64.wrap ((IntKind.u64.wrap (((((c_0.1, (IntKind.i64.wrap (c_0.2.1 + (1 : Int)), c_0.2.2)).2).2).1) * (6364136223846793005 : Int))) + (IntKind.u64.wrap (IntKind.i64.wrap xq1)))) + (550289 : Int)), (((c_0.1, (IntKind.i64.wrap (c_0.2.1 + (1 : Int)), c_0.2.2)).2).2).2))).2).2).1) (40 : Int)).bind fun xq2 =>
  some (IntKind.i64.wrap (bitI .and IntKind.u64 xq2 (255 : Int)), (((c_0.1, (IntKind.i64.wrap (c_0.2.1 + (1 : Int)), c_0.2.2)).1, (((c_0.1, (IntKind.i64.wrap (c_0.2.1 + (1 : Int)), c_0.2.2)).2).1, (IntKind.u64.wrap ((IntKind.u64.wrap ((IntKind.u64.wrap (((((c_0.1, (IntKind.i64.wrap (c_0.2.1 + (1 : Int)), c_0.2.2)).2).2).1) * (6364136223846793005 : Int))) + (IntKind.u64.wrap (IntKind.i64.wrap xq1)))) + (550289 : Int)), (((c_0.1, (IntKind.i64.wrap (c_0.2.1 + (1 : Int)), c_0.2.2)).2).2).2))), ()))))
  (cond (decide (((((c_0.1, (IntKind.i64.wrap (c_0.2.1 + (1 : Int)), c_0.2.2)).1, (((c_0.1, (IntKind.i64.wrap (c_0.2.1 + (1 : Int)), c_0.2.2)).2).1, (IntKind.u64.wrap ((IntKind.u64.wrap ((IntKind.u64.wrap (((((c_0.1, (IntKind.i64.wrap (c_0.2.1 + (1 : Int)), c_0.2.2)).2).2).1) * (6364136223846793005 : Int))) + (IntKind.u64.wrap (0 : Int)))) + (550289 : Int)), (((c_0.1, (IntKind.i64.wrap (c_0.2.1 + (1 : Int)), c_0.2.2)).2).2).2))).2).1) ≤ ((((c_0.1, (IntKind.i64.wrap (c_0.2.1 + (1 : Int)), c_0.2.2)).1, (((c_0.1, (IntKind.i64.wrap (c_0.2.1 + (1 : Int)), c_0.2.2)).2).1, (IntKind.u64.wrap ((IntKind.u64.wrap ((IntKind.u64.wrap (((((c_0.1, (IntKind.i64.wrap (c_0.2.1 + (1 : Int)), c_0.2.2)).2).2).1) * (6364136223846793005 : Int))) + (IntKind.u64.wrap (0 : Int)))) + (550289 : Int)), (((c_0.1, (IntKind.i64.wrap (c_0.2.1 + (1 : Int)), c_0.2.2)).2).2).2))).1).length : Int)))
  (some ((0 : Int), (((c_0.1, (IntKind.i64.wrap (c_0.2.1 + (1 : Int)), c_0.2.2)).1, (((c_0.1, (IntKind.i64.wrap (c_0.2.1 + (1 : Int)), c_0.2.2)).2).1, (IntKind.u64.wrap ((IntKind.u64.wrap ((IntKind.u64.wrap (((((c_0.1, (IntKind.i64.wrap (c_0.2.1 + (1 : Int)), c_0.2.2)).2).2).1) * (6364136223846793005 : Int))) + (IntKind.u64.wrap (0 : Int)))) + (550289 : Int)), (((c_0.1, (IntKind.i64.wrap (c_0.2.1 + (1 : Int)), c_0.2.2)).2).2).2))), ())))
  ((shrI IntKind.u64 (((((c_0.1, (IntKind.i64.wrap (c_0.2.1 + (1 : Int)), c_0.2.2)).1, (((c_0.1, (IntKind.i64.wrap (c_0.2.1 + (1 : Int)), c_0.2.2)).2).1, (IntKind.u64.wrap ((IntKind.u64.wrap ((IntKind.u64.wrap (((((c_0.1, (IntKind.i64.wrap (c_0.2.1 + (1 : Int)), c_0.2.2)).2).2).1) * (6364136223846793005 : Int))) + (IntKind.u64.wrap (0 : Int)))) + (550289 : Int)), (((c_0.1, (IntKind.i64.wrap (c_0.2.1 + (1 : Int)), c_0.2.2)).2).2).2))).2).2).1) (40 : Int)).bind fun xq3 =>
  some (IntKind.i64.wrap (bitI .and IntKind.u64 xq3 (255 : Int)), (((c_0.1, (IntKind.i64.wrap (c_0.2.1 + (1 : Int)), c_0.2.2)).1, (((c_0.1, (IntKind.i64.wrap (c_0.2.1 + (1 : Int)), c_0.2.2)).2).1, (IntKind.u64.wrap ((IntKind.u64.wrap ((IntKind.u64.wrap (((((c_0.1, (IntKind.i64.wrap (c_0.2.1 + (1 : Int)), c_0.2.2)).2).2).1) * (6364136223846793005 : Int))) + (IntKind.u64.wrap (0 : Int)))) + (550289 : Int)), (((c_0.1, (IntKind.i64.wrap (c_0.2.1 + (1 : Int)), c_0.2.2)).2).2).2))), ()))))
def zz1 (c_0 : Z13) : Option (Int × (Z13 × Unit)) := vbme c_0
def S_zz1 : Sig := { a := (.pair (.ptr (.pair (.sl (.int .u8)) (.pair I (.pair (.int .u64) .unit)))) .unit), md := [1], mf := [(.o .i)], m := (.pair (.ptr (.pair (.sl (.int .u8)) (.pair I (.pair (.int .u64) .unit)))) .unit), r := I, rf := .i, f := fun x => zz1 x.1 }
def A_zz1 : Cfg := mkCfg tab [] []
theorem run_zz1 (N : Nat) (x : (S_zz1).a.den) : runF (A_zz1) N Try.f88 S_zz1 x = zz1 x.1 := by kernel_rfl
theorem fn_zz1 : FnOk Try.prog 88 := ⟨_, Try.func88, by kernel_rfl, by kernel_rfl⟩
theorem good_zz1 : Gx.Good Try.prog 88 S_zz1 := vaa Try.func88 (of_decide_eq_true (by kernel_rfl)) fun x r h => ⟨A_zz1, big, vac tabOk, vab (show SigsOk Try.prog [] from trivial), (run_zz1 big x).trans h⟩
def vbml (c_0 : Z13) (n_1 : Int) : Option (Int × (Z13 × Unit)) :=
  cond (decide (n_1 ≤ (1 : Int)))
  (some ((0 : Int), (c_0, ())))
  ((zz1 c_0).bind fun rq1 =>
  cond (decide ((200 : Int) < n_1))
  ((zz1 rq1.2.1).bind fun rq2 =>
  (remI (IntKind.i64.wrap ((IntKind.i64.wrap (rq1.1 * (256 : Int))) + rq2.1)) n_1).bind fun xq3 =>
  some (xq3, (rq2.2.1, ())))
  ((remI rq1.1 n_1).bind fun xq4 =>
  some (xq4, (rq1.2.1, ()))))
def zz2 (c_0 : Z13) (n_1 : Int) : Option (Int × (Z13 × Unit)) := vbml c_0 n_1
def S_zz2 : Sig := { a := (.pair (.ptr (.pair (.sl (.int .u8)) (.pair I (.pair (.int .u64) .unit)))) (.pair I .unit)), md := [1, 0], mf := [(.o .i)], m := (.pair (.ptr (.pair (.sl (.int .u8)) (.pair I (.pair (.int .u64) .unit)))) .unit), r := I, rf := .i, f := fun x => zz2 x.1 x.2.1 }
def A_zz2 : Cfg := mkCfg tab [(88, S_zz1)] []
theorem run_zz2 (N : Nat) (x : (S_zz2).a.den) : runF (A_zz2) N Try.f39 S_zz2 x = zz2 x.1 x.2.1 := by kernel_rfl
theorem fn_zz2 : FnOk Try.prog 39 := ⟨_, Try.func39, by kernel_rfl, by kernel_rfl⟩
theorem good_zz2 : Gx.Good Try.prog 39 S_zz2 := vaa Try.func39 (of_decide_eq_true (by kernel_rfl)) fun x r h => ⟨A_zz2, big, vac tabOk, vab (show SigsOk Try.prog [(88, S_zz1)] from ⟨⟨fn_zz1, good_zz1⟩, trivial⟩), (run_zz2 big x).trans h⟩
def vbmi (c_0 : Z13) (n_1 : Int) : Option (Bool × (Z13 × Unit)) :=
  (zz2 c_0 n_1).bind fun rq1 =>
  some (decide (rq1.1 = (0 : Int)), (rq1.2.1, ()))
def zz3 (c_0 : Z13) (n_1 : Int) : Option (Bool × (Z13 × Unit)) := vbmi c_0 n_1
def S_zz3 : Sig := { a := (.pair (.ptr (.pair (.sl (.int .u8)) (.pair I (.pair (.int .u64) .unit)))) (.pair I .unit)), md := [1, 0], mf := [(.o .i)], m := (.pair (.ptr (.pair (.sl (.int .u8)) (.pair I (.pair (.int .u64) .unit)))) .unit), r := .bool, rf := .i, f := fun x => zz3 x.1 x.2.1 }
def A_zz3 : Cfg := mkCfg tab [(39, S_zz2)] []
theorem run_zz3 (N : Nat) (x : (S_zz3).a.den) : runF (A_zz3) N Try.f50 S_zz3 x = zz3 x.1 x.2.1 := by kernel_rfl
theorem fn_zz3 : FnOk Try.prog 50 := ⟨_, Try.func50, by kernel_rfl, by kernel_rfl⟩
theorem good_zz3 : Gx.Good Try.prog 50 S_zz3 := vaa Try.func50 (of_decide_eq_true (by kernel_rfl)) fun x r h => ⟨A_zz3, big, vac tabOk, vab (show SigsOk Try.prog [(39, S_zz2)] from ⟨⟨fn_zz2, good_zz2⟩, trivial⟩), (run_zz3 big x).trans h⟩
def vbmc (c_0 : Z13) (list_1 : Y4) : Option (Int × (Z13 × Unit)) :=
  (zz2 c_0 (list_1.length : Int)).bind fun rq1 =>
  (atI list_1 rq1.1).bind fun xq2 =>
  some (xq2, (rq1.2.1, ()))
def zz4 (c_0 : Z13) (list_1 : Y4) : Option (Int × (Z13 × Unit)) := vbmc c_0 list_1
def S_zz4 : Sig := { a := (.pair (.ptr (.pair (.sl (.int .u8)) (.pair I (.pair (.int .u64) .unit)))) (.pair (.sl I) .unit)), md := [1, 0], mf := [(.o .i)], m := (.pair (.ptr (.pair (.sl (.int .u8)) (.pair I (.pair (.int .u64) .unit)))) .unit), r := I, rf := .i, f := fun x => zz4 x.1 x.2.1 }
def A_zz4 : Cfg := mkCfg tab [(39, S_zz2)] []
theorem run_zz4 (N : Nat) (x : (S_zz4).a.den) : runF (A_zz4) N Try.f87 S_zz4 x = zz4 x.1 x.2.1 := by kernel_rfl
theorem fn_zz4 : FnOk Try.prog 87 := ⟨_, Try.func87, by kernel_rfl, by kernel_rfl⟩
theorem good_zz4 : Gx.Good Try.prog 87 S_zz4 := vaa Try.func87 (of_decide_eq_true (by kernel_rfl)) fun x r h => ⟨A_zz4, big, vac tabOk, vab (show SigsOk Try.prog [(39, S_zz2)] from ⟨⟨fn_zz2, good_zz2⟩, trivial⟩), (run_zz4 big x).trans h⟩
def vuv (rec : Z13 → Int → Y4 → Int → Z15) (k : Z13 → Int → Y4 → Z15) (c0 : Z13) (n1 : Int) (out5 : Y4) (i6 : Int) : Z15 :=
  cond (decide (i6 < n1))
  ((zz2 c0 (IntKind.i64.wrap ((out5.length : Int) + (1 : Int)))).bind fun rq1 =>
  (slI out5 0 rq1.1).bind fun xq2 =>
  (appI [] xq2).bind fun xq3 =>
  (appI xq3 [i6]).bind fun xq4 =>
  (slI out5 rq1.1 out5.length).bind fun xq5 =>
  (appI xq4 xq5).bind fun xq6 =>
  rec rq1.2.1 n1 xq6 (IntKind.i64.wrap (i6 + (1 : Int))))
  (k c0 n1 out5)
def vrg (c0 : Z13) (n1 : Int) (out5 : Y4) : Z15 :=
  (zz2 c0 (24 : Int)).bind fun rq7 =>
  cond (decide (rq7.1 = (0 : Int)))
  ((appI out5 [n1]).bind fun xq8 =>
  some (xq8, (rq7.2.1, ())))
  (cond (decide (rq7.1 = (1 : Int)))
  (cond (decide ((0 : Int) < n1))
  ((zz2 rq7.2.1 n1).bind fun rq9 =>
  (zz4 rq9.2.1 [(0 : Int), (-1 : Int), n1]).bind fun rq10 =>
  (atI out5 rq9.1).bind fun _ =>
  (out5[rq9.1.toNat]?).bind fun xq11 =>
  some (out5.set rq9.1.toNat rq10.1, (rq10.2.1, ())))
  (some (out5, (rq7.2.1, ()))))
  (some (out5, (rq7.2.1, ()))))
def vbdb (L3 : Z13 → Int → Y4 → Int → Z15) (c_0 : Z13) (n_1 : Int) : Z15 :=
  L3 c_0 n_1 [] (0 : Int)
def vuw (N : Nat) (k : Z13 → Int → Y4 → Z15) : Nat → Z13 → Int → Y4 → Int → Z15
  | 0, _, _, _, _ => none
  | m + 1, c0, n1, out5, i6 => vuv (vuw N k m) k c0 n1 out5 i6
def vapa (N : Nat) (c0 : Z13) (n1 : Int) (out5 : Y4) (i6 : Int) : Z15 := vuw N (vrg) N c0 n1 out5 i6
def zz5 (N : Nat) (c_0 : Z13) (n_1 : Int) : Z15 := vbdb (vapa N) c_0 n_1
def S_zz5 : Sig := { a := (.pair (.ptr (.pair (.sl (.int .u8)) (.pair I (.pair (.int .u64) .unit)))) (.pair I .unit)), md := [1, 0], mf := [(.o .i)], m := (.pair (.ptr (.pair (.sl (.int .u8)) (.pair I (.pair (.int .u64) .unit)))) .unit), r := (.sl I), rf := (.o .i), f := fun x => zz5 big x.1 x.2.1 }
def A_zz5 : Cfg := mkCfg tab [(39, S_zz2), (87, S_zz4)] [(6, [.as (.ptr (.pair (.sl (.int .u8)) (.pair I (.pair (.int .u64) .unit)))) (.o .i), .as I .i, .drop, .drop, .drop, .as (.sl I) (.o .i), .as I .i]), (13, [.as (.ptr (.pair (.sl (.int .u8)) (.pair I (.pair (.int .u64) .unit)))) (.o .i), .as I .i, .drop, .drop, .drop, .as (.sl I) .i, .as I .i, .as I .i]), (15, [.as (.ptr (.pair (.sl (.int .u8)) (.pair I (.pair (.int .u64) .unit)))) (.o .i), .as I .i, .drop, .drop, .drop, .as (.sl I) (.o .i)])]
noncomputable def vtn (N n : Nat) (K : Ex → St → Z15) (c0 : Z13) (n1 : Int) (out5 : Y4) (i6 : Int) : Z15 := iter ((A_zz5).shape 6) (run (A_zz5) N (codeAt Try.f95 [1, 1, 0, 1, 0, 0])) n ([.val (.ptr (.pair (.sl (.int .u8)) (.pair I (.pair (.int .u64) .unit)))) (.o .i) c0, .val I .i n1, .u, .u, .u, .val (.sl I) (.o .i) out5, .val I .i i6] ++ List.replicate 46 .u) K
noncomputable abbrev vbcp : Ex → St → Z15 := finish (A_zz5) S_zz5 Try.f95.results.toList
noncomputable abbrev vxf (kX : St → Z15) : Z13 → Int → Y4 → Z15 := fun (c0 : Z13) (n1 : Int) (out5 : Y4) => kX ([.val (.ptr (.pair (.sl (.int .u8)) (.pair I (.pair (.int .u64) .unit)))) (.o .i) c0, .val I .i n1, .u, .u, .u, .val (.sl I) (.o .i) out5] ++ List.replicate 47 .u)
noncomputable abbrev vaei (kX : St → Z15) (kO : Nat → St → Z15) : Ex → St → Z15 := exK vbcp 0 ((A_zz5).shape 15) kX kO
theorem vbhf (N m : Nat) (kX : St → Z15) (kO : Nat → St → Z15) (c0 : Z13) (n1 : Int) (out5 : Y4) (i6 : Int) : vtn N (m + 1) (vaei kX kO) c0 n1 out5 i6 = vuv (vtn N m (vaei kX kO)) (vxf kX) c0 n1 out5 i6 := by kernel_rfl
theorem vaof (N : Nat) (kX : St → Z15) (kO : Nat → St → Z15) : ∀ (n : Nat) (c0 : Z13) (n1 : Int) (out5 : Y4) (i6 : Int), vtn N n (vaei kX kO) c0 n1 out5 i6 = vuw N (vxf kX) n c0 n1 out5 i6
  | 0, _, _, _, _ => rfl
  | m + 1, c0, n1, out5, i6 => by
    have hrec : vtn N m (vaei kX kO) = (vuw N (vxf kX) m) := (funext fun c0 => (funext fun n1 => (funext fun out5 => (funext fun i6 => vaof N kX kO m c0 n1 out5 i6))))
    refine (vbhf N m kX kO c0 n1 out5 i6).trans ?_
    rw [hrec]
    rfl
noncomputable abbrev varg (N : Nat) : Ex → St → Z15 := (blockK 0 (seqK ((A_zz5).shape 15) (gated ((A_zz5).shape 500007).isSome N (run (A_zz5) N (codeAt Try.f95 [1, 1, 1]))) vbcp))
noncomputable abbrev vaua (N : Nat) : St → Z15 := fun st' => run (A_zz5) N (codeAt Try.f95 [1, 1, 1]) st' vbcp
theorem vbdf (N : Nat) (c0 : Z13) (n1 : Int) (out5 : Y4) : vxf (vaua N) c0 n1 out5 = vrg c0 n1 out5 := by kernel_rfl
theorem vbpj (N : Nat) (c0 : Z13) (n1 : Int) (out5 : Y4) (i6 : Int) : vtn N N (varg N) c0 n1 out5 i6 = vapa N c0 n1 out5 i6 :=
  have h : vxf (vaua N) = (vrg) := (funext fun c0 => (funext fun n1 => (funext fun out5 => vbdf N c0 n1 out5)))
  ((vad (fun st => by kernel_rfl) (fun st => by kernel_rfl)).trans (vaof N (vaua N) (fun j st => (varg N) (.exit j) st) N c0 n1 out5 i6)).trans (congrArg (fun k => vuw N k N c0 n1 out5 i6) h)
theorem run0_zz5 (N : Nat) (x : (S_zz5).a.den) : runF (A_zz5) N Try.f95 S_zz5 x = (vbdb (vtn N N (varg N)) x.1 x.2.1) := by kernel_rfl
theorem run_zz5 (N : Nat) (x : (S_zz5).a.den) : runF (A_zz5) N Try.f95 S_zz5 x = zz5 N x.1 x.2.1 := by
  refine (run0_zz5 N x).trans ?_
  rw [(funext fun c0 => (funext fun n1 => (funext fun out5 => (funext fun i6 => vbpj N c0 n1 out5 i6))))]
  rfl
theorem fn_zz5 : FnOk Try.prog 95 := ⟨_, Try.func95, by kernel_rfl, by kernel_rfl⟩
theorem good_zz5 : Gx.Good Try.prog 95 S_zz5 := vaa Try.func95 (of_decide_eq_true (by kernel_rfl)) fun x r h => ⟨A_zz5, big, vac tabOk, vab (show SigsOk Try.prog [(39, S_zz2), (87, S_zz4)] from ⟨⟨fn_zz2, good_zz2⟩, ⟨fn_zz4, good_zz4⟩, trivial⟩), (run_zz5 big x).trans h⟩
def vbmg (x_0 a_1 b_2 : Int) : Z0 :=
  cond (decide (a_1 ≤ x_0))
  (some (decide (x_0 ≤ b_2), (())))
  (some (false, (())))
def zz6 (x_0 a_1 b_2 : Int) : Z0 := vbmg x_0 a_1 b_2
def S_zz6 : Sig := { a := (.pair I (.pair I (.pair I .unit))), md := [0, 0, 0], mf := [], m := .unit, r := .bool, rf := .i, f := fun x => zz6 x.1 x.2.1 x.2.2.1 }
def A_zz6 : Cfg := mkCfg tab [] []
theorem run_zz6 (N : Nat) (x : (S_zz6).a.den) : runF (A_zz6) N Try.f107 S_zz6 x = zz6 x.1 x.2.1 x.2.2.1 := by kernel_rfl
theorem fn_zz6 : FnOk Try.prog 107 := ⟨_, Try.func107, by kernel_rfl, by kernel_rfl⟩
theorem good_zz6 : Gx.Good Try.prog 107 S_zz6 := vaa Try.func107 (of_decide_eq_true (by kernel_rfl)) fun x r h => ⟨A_zz6, big, vac tabOk, vab (show SigsOk Try.prog [] from trivial), (run_zz6 big x).trans h⟩
def vsy (rec : Int → Y4 → Int → Z0) (k : Z0) (n0 : Int) (list1 : Y4) (i5 : Int) : Z0 :=
  cond (decide (i5 < (list1.length : Int)))
  ((atI list1 i5).bind fun xq1 =>
  (zz6 xq1 (0 : Int) (IntKind.i64.wrap (n0 - (1 : Int)))).bind fun rq2 =>
  cond (!rq2.1)
  (some (false, (())))
  (rec n0 list1 (IntKind.i64.wrap (i5 + (1 : Int)))))
  (k)
def vrb : Z0 :=
  some (true, (()))
def vbbn (L2 : Int → Y4 → Int → Z0) (n_0 : Int) (list_1 : Y4) : Z0 :=
  L2 n_0 list_1 (0 : Int)
def vtj (N : Nat) (k : Z0) : Nat → Int → Y4 → Int → Z0
  | 0, _, _, _ => none
  | m + 1, n0, list1, i5 => vsy (vtj N k m) k n0 list1 i5
def vaso (N : Nat) (n0 : Int) (list1 : Y4) (i5 : Int) : Z0 := vtj N (vrb) N n0 list1 i5
def zz7 (N : Nat) (n_0 : Int) (list_1 : Y4) : Z0 := vbbn (vaso N) n_0 list_1
def S_zz7 : Sig := { a := (.pair I (.pair (.sl I) .unit)), md := [0, 0], mf := [], m := .unit, r := .bool, rf := .i, f := fun x => zz7 big x.1 x.2.1 }
def A_zz7 : Cfg := mkCfg tab [(107, S_zz6)] [(4, [.as I .i, .as (.sl I) .i, .drop, .drop, .drop, .as I .i]), (13, [])]
noncomputable def vsj (N n : Nat) (K : Ex → St → Z0) (n0 : Int) (list1 : Y4) (i5 : Int) : Z0 := iter ((A_zz7).shape 4) (run (A_zz7) N (codeAt Try.f56 [1, 0, 1, 0, 0])) n ([.val I .i n0, .val (.sl I) .i list1, .u, .u, .u, .val I .i i5] ++ List.replicate 14 .u) K
noncomputable abbrev vbdn : Ex → St → Z0 := finish (A_zz7) S_zz7 Try.f56.results.toList
noncomputable abbrev vxd (kX : St → Z0) : Z0 := kX ([] ++ List.replicate 20 .u)
noncomputable abbrev vaef (kX : St → Z0) (kO : Nat → St → Z0) : Ex → St → Z0 := exK vbdn 0 ((A_zz7).shape 13) kX kO
theorem vbhv (N m : Nat) (kX : St → Z0) (kO : Nat → St → Z0) (n0 : Int) (list1 : Y4) (i5 : Int) : vsj N (m + 1) (vaef kX kO) n0 list1 i5 = vsy (vsj N m (vaef kX kO)) (vxd kX) n0 list1 i5 := by kernel_rfl
theorem vanv (N : Nat) (kX : St → Z0) (kO : Nat → St → Z0) : ∀ (n : Nat) (n0 : Int) (list1 : Y4) (i5 : Int), vsj N n (vaef kX kO) n0 list1 i5 = vtj N (vxd kX) n n0 list1 i5
  | 0, _, _, _ => rfl
  | m + 1, n0, list1, i5 => by
    have hrec : vsj N m (vaef kX kO) = (vtj N (vxd kX) m) := (funext fun n0 => (funext fun list1 => (funext fun i5 => vanv N kX kO m n0 list1 i5)))
    refine (vbhv N m kX kO n0 list1 i5).trans ?_
    rw [hrec]
    rfl
noncomputable abbrev vatt (N : Nat) : Ex → St → Z0 := (blockK 0 (seqK ((A_zz7).shape 13) (gated ((A_zz7).shape 500006).isSome N (run (A_zz7) N (codeAt Try.f56 [1, 1]))) vbdn))
noncomputable abbrev vass (N : Nat) : St → Z0 := fun st' => run (A_zz7) N (codeAt Try.f56 [1, 1]) st' vbdn
theorem vban (N : Nat) : vxd (vass N) = vrb := by kernel_rfl
theorem vbnv (N : Nat) (n0 : Int) (list1 : Y4) (i5 : Int) : vsj N N (vatt N) n0 list1 i5 = vaso N n0 list1 i5 :=
  have h : vxd (vass N) = (vrb) := vban N
  ((vad (fun st => by kernel_rfl) (fun st => by kernel_rfl)).trans (vanv N (vass N) (fun j st => (vatt N) (.exit j) st) N n0 list1 i5)).trans (congrArg (fun k => vtj N k N n0 list1 i5) h)
theorem run0_zz7 (N : Nat) (x : (S_zz7).a.den) : runF (A_zz7) N Try.f56 S_zz7 x = (vbbn (vsj N N (vatt N)) x.1 x.2.1) := by kernel_rfl
theorem run_zz7 (N : Nat) (x : (S_zz7).a.den) : runF (A_zz7) N Try.f56 S_zz7 x = zz7 N x.1 x.2.1 := by
  refine (run0_zz7 N x).trans ?_
  rw [(funext fun n0 => (funext fun list1 => (funext fun i5 => vbnv N n0 list1 i5)))]
  rfl
theorem fn_zz7 : FnOk Try.prog 56 := ⟨_, Try.func56, by kernel_rfl, by kernel_rfl⟩
theorem good_zz7 : Gx.Good Try.prog 56 S_zz7 := vaa Try.func56 (of_decide_eq_true (by kernel_rfl)) fun x r h => ⟨A_zz7, big, vac tabOk, vab (show SigsOk Try.prog [(107, S_zz6)] from ⟨⟨fn_zz6, good_zz6⟩, trivial⟩), (run_zz7 big x).trans h⟩
def vtf (rec : Y4 → Int → (List Bool) → Int → Z0) (k : Z0) (l0 : Y4) (n1 : Int) (seen5 : (List Bool)) (i6 : Int) : Z0 :=
  cond (decide (i6 < n1))
  ((atI l0 i6).bind fun xq4 =>
  (atI seen5 xq4).bind fun _ =>
  (seen5[xq4.toNat]?).bind fun xq5 =>
  cond xq5
  (some (false, (())))
  ((atI l0 i6).bind fun xq6 =>
  (atI seen5 xq6).bind fun _ =>
  (seen5[xq6.toNat]?).bind fun xq7 =>
  rec l0 n1 (seen5.set xq6.toNat true) (IntKind.i64.wrap (i6 + (1 : Int)))))
  (k)
def vqu : Z0 :=
  some (true, (()))
def vbcj (L5 : Y4 → Int → (List Bool) → Int → Z0) (l_0 : Y4) (n_1 : Int) : Z0 :=
  cond (decide ((l_0.length : Int) ≠ n_1))
  (some (false, (())))
  ((zz7 big n_1 l_0).bind fun rq1 =>
  cond (!rq1.1)
  (some (false, (())))
  ((mkI false n_1).bind fun xq2 => (mkI false n_1).bind fun xq3 => cond (decide (n_1 ≤ n_1))
  (L5 l_0 n_1 xq3 (0 : Int))
  none))
def vtz (N : Nat) (k : Z0) : Nat → Y4 → Int → (List Bool) → Int → Z0
  | 0, _, _, _, _ => none
  | m + 1, l0, n1, seen5, i6 => vtf (vtz N k m) k l0 n1 seen5 i6
def vapy (N : Nat) (l0 : Y4) (n1 : Int) (seen5 : (List Bool)) (i6 : Int) : Z0 := vtz N (vqu) N l0 n1 seen5 i6
def zz8 (N : Nat) (l_0 : Y4) (n_1 : Int) : Z0 := vbcj (vapy N) l_0 n_1
def S_zz8 : Sig := { a := (.pair (.sl I) (.pair I .unit)), md := [0, 0], mf := [], m := .unit, r := .bool, rf := .i, f := fun x => zz8 big x.1 x.2.1 }
def A_zz8 : Cfg := mkCfg tab [(56, S_zz7)] [(10, [.as (.sl I) .i, .as I .i, .drop, .drop, .drop, .as (.sl .bool) (.o .i), .as I .i]), (21, [])]
noncomputable def vus (N n : Nat) (K : Ex → St → Z0) (l0 : Y4) (n1 : Int) (seen5 : (List Bool)) (i6 : Int) : Z0 := iter ((A_zz8).shape 10) (run (A_zz8) N (codeAt Try.f96 [1, 1, 1, 0, 1, 0, 0])) n ([.val (.sl I) .i l0, .val I .i n1, .u, .u, .u, .val (.sl .bool) (.o .i) seen5, .val I .i i6] ++ List.replicate 30 .u) K
noncomputable abbrev vbdi : Ex → St → Z0 := finish (A_zz8) S_zz8 Try.f96.results.toList
noncomputable abbrev vxj (kX : St → Z0) : Z0 := kX ([] ++ List.replicate 37 .u)
noncomputable abbrev vafs (kX : St → Z0) (kO : Nat → St → Z0) : Ex → St → Z0 := exK vbdi 0 ((A_zz8).shape 21) kX kO
theorem vbhw (N m : Nat) (kX : St → Z0) (kO : Nat → St → Z0) (l0 : Y4) (n1 : Int) (seen5 : (List Bool)) (i6 : Int) : vus N (m + 1) (vafs kX kO) l0 n1 seen5 i6 = vtf (vus N m (vafs kX kO)) (vxj kX) l0 n1 seen5 i6 := by kernel_rfl
theorem vaol (N : Nat) (kX : St → Z0) (kO : Nat → St → Z0) : ∀ (n : Nat) (l0 : Y4) (n1 : Int) (seen5 : (List Bool)) (i6 : Int), vus N n (vafs kX kO) l0 n1 seen5 i6 = vtz N (vxj kX) n l0 n1 seen5 i6
  | 0, _, _, _, _ => rfl
  | m + 1, l0, n1, seen5, i6 => by
    have hrec : vus N m (vafs kX kO) = (vtz N (vxj kX) m) := (funext fun l0 => (funext fun n1 => (funext fun seen5 => (funext fun i6 => vaol N kX kO m l0 n1 seen5 i6))))
    refine (vbhw N m kX kO l0 n1 seen5 i6).trans ?_
    rw [hrec]
    rfl
noncomputable abbrev vapc (N : Nat) : Ex → St → Z0 := (blockK 0 (seqK ((A_zz8).shape 21) (gated ((A_zz8).shape 500010).isSome N (run (A_zz8) N (codeAt Try.f96 [1, 1, 1, 1]))) vbdi))
noncomputable abbrev vare (N : Nat) : St → Z0 := fun st' => run (A_zz8) N (codeAt Try.f96 [1, 1, 1, 1]) st' vbdi
theorem vbdv (N : Nat) : vxj (vare N) = vqu := by kernel_rfl
theorem vbnp (N : Nat) (l0 : Y4) (n1 : Int) (seen5 : (List Bool)) (i6 : Int) : vus N N (vapc N) l0 n1 seen5 i6 = vapy N l0 n1 seen5 i6 :=
  have h : vxj (vare N) = (vqu) := vbdv N
  ((vad (fun st => by kernel_rfl) (fun st => by kernel_rfl)).trans (vaol N (vare N) (fun j st => (vapc N) (.exit j) st) N l0 n1 seen5 i6)).trans (congrArg (fun k => vtz N k N l0 n1 seen5 i6) h)
theorem run0_zz8 (N : Nat) (x : (S_zz8).a.den) : runF (A_zz8) N Try.f96 S_zz8 x = (vbcj (vus N N (vapc N)) x.1 x.2.1) := by kernel_rfl
theorem run_zz8 (N : Nat) (x : (S_zz8).a.den) : runF (A_zz8) N Try.f96 S_zz8 x = zz8 N x.1 x.2.1 := by
  refine (run0_zz8 N x).trans ?_
  rw [(funext fun l0 => (funext fun n1 => (funext fun seen5 => (funext fun i6 => vbnp N l0 n1 seen5 i6))))]
  rfl
theorem fn_zz8 : FnOk Try.prog 96 := ⟨_, Try.func96, by kernel_rfl, by kernel_rfl⟩
theorem good_zz8 : Gx.Good Try.prog 96 S_zz8 := vaa Try.func96 (of_decide_eq_true (by kernel_rfl)) fun x r h => ⟨A_zz8, big, vac tabOk, vab (show SigsOk Try.prog [(56, S_zz7)] from ⟨⟨fn_zz7, good_zz7⟩, trivial⟩), (run_zz8 big x).trans h⟩
def vpy (rec : Int → Y2 → Y5 → Y2 → Int → Y4 → Int → Z3) (k : Int → Y2 → Y5 → Y2 → Int → Y4 → Z3) (n0 : Int) (t4 : Y2) (leq5 : Y5) (p12 : Y2) (y13 : Int) (below14 : Y4) (x15 : Int) : Z3 :=
  cond (decide (x15 < n0))
  ((atI leq5 x15).bind fun _ =>
  (leq5[x15.toNat]?).bind fun xq33 =>
  (leq5[x15.toNat]?).bind fun xq34 =>
  (atI xq34 y13).bind fun _ =>
  (leq5[x15.toNat]?).bind fun xq35 =>
  (xq35[y13.toNat]?).bind fun xq36 =>
  cond xq36
  ((appI below14 [x15]).bind fun xq37 =>
  rec n0 t4 leq5 p12 y13 xq37 (IntKind.i64.wrap (x15 + (1 : Int))))
  (rec n0 t4 leq5 p12 y13 below14 (IntKind.i64.wrap (x15 + (1 : Int)))))
  (k n0 t4 leq5 p12 y13 below14)
def vgl (rec : Int → Y2 → Y5 → Y2 → Int → Z3) (n0 : Int) (t4 : Y2) (leq5 : Y5) (p12 : Y2) (y13 : Int) (below14 : Y4) : Z3 :=
  (appI p12.1 [below14]).bind fun xq38 =>
  rec n0 t4 leq5 (xq38, ((), p12.2).2) (IntKind.i64.wrap (y13 + (1 : Int)))
def vqc (rec : Int → Y2 → Y5 → Int → Int → Int → Z3) (k : Int → Y2 → Y5 → Int → Int → Z3) (n0 : Int) (t4 : Y2) (leq5 : Y5) (z9 x10 y11 : Int) : Z3 :=
  cond (decide (y11 < n0))
  ((atI leq5 x10).bind fun _ =>
  (leq5[x10.toNat]?).bind fun xq11 =>
  (atI leq5 x10).bind fun _ =>
  (leq5[x10.toNat]?).bind fun xq12 =>
  (leq5[x10.toNat]?).bind fun xq13 =>
  (atI xq13 y11).bind fun _ =>
  (leq5[x10.toNat]?).bind fun xq14 =>
  (xq14[y11.toNat]?).bind fun xq15 =>
  cond xq15
  ((leq5[x10.toNat]?).bind fun xq16 =>
  (atI xq16 y11).bind fun _ =>
  (leq5[x10.toNat]?).bind fun xq17 =>
  (xq17[y11.toNat]?).bind fun xq18 =>
  rec n0 t4 (leq5.set x10.toNat (xq17.set y11.toNat true)) z9 x10 (IntKind.i64.wrap (y11 + (1 : Int))))
  ((atI leq5 x10).bind fun _ =>
  (leq5[x10.toNat]?).bind fun xq19 =>
  (leq5[x10.toNat]?).bind fun xq20 =>
  (atI xq20 z9).bind fun _ =>
  (leq5[x10.toNat]?).bind fun xq21 =>
  (xq21[z9.toNat]?).bind fun xq22 =>
  cond xq22
  ((atI leq5 z9).bind fun _ =>
  (leq5[z9.toNat]?).bind fun xq23 =>
  (leq5[z9.toNat]?).bind fun xq24 =>
  (atI xq24 y11).bind fun _ =>
  (leq5[z9.toNat]?).bind fun xq25 =>
  (xq25[y11.toNat]?).bind fun xq26 =>
  (leq5[x10.toNat]?).bind fun xq27 =>
  (atI xq27 y11).bind fun _ =>
  (leq5[x10.toNat]?).bind fun xq28 =>
  (xq28[y11.toNat]?).bind fun xq29 =>
  rec n0 t4 (leq5.set x10.toNat (xq28.set y11.toNat xq26)) z9 x10 (IntKind.i64.wrap (y11 + (1 : Int))))
  ((leq5[x10.toNat]?).bind fun xq30 =>
  (atI xq30 y11).bind fun _ =>
  (leq5[x10.toNat]?).bind fun xq31 =>
  (xq31[y11.toNat]?).bind fun xq32 =>
  rec n0 t4 (leq5.set x10.toNat (xq31.set y11.toNat false)) z9 x10 (IntKind.i64.wrap (y11 + (1 : Int))))))
  (k n0 t4 leq5 z9 x10)
def vjm (rec : Int → Y2 → Y5 → Int → Int → Z3) (n0 : Int) (t4 : Y2) (leq5 : Y5) (z9 x10 : Int) : Z3 :=
  rec n0 t4 leq5 z9 (IntKind.i64.wrap (x10 + (1 : Int)))
def vmo (L28 : Int → Y2 → Y5 → Y2 → Int → Y4 → Int → Z3) (k : Y2 → Y2 → Z3) (n0 : Int) (t4 : Y2) (leq5 : Y5) (p12 : Y2) (y13 : Int) : Z3 :=
  cond (decide (y13 < n0))
  (L28 n0 t4 leq5 p12 y13 [] (0 : Int))
  (k t4 p12)
def vcw (t4 p12 : Y2) : Z3 :=
  some (p12, (()))
def voz (L19 : Int → Y2 → Y5 → Int → Int → Int → Z3) (k : Int → Y2 → Y5 → Int → Z3) (n0 : Int) (t4 : Y2) (leq5 : Y5) (z9 x10 : Int) : Z3 :=
  cond (decide (x10 < n0))
  (L19 n0 t4 leq5 z9 x10 (0 : Int))
  (k n0 t4 leq5 z9)
def vcx (rec : Int → Y2 → Y5 → Int → Z3) (n0 : Int) (t4 : Y2) (leq5 : Y5) (z9 : Int) : Z3 :=
  rec n0 t4 leq5 (IntKind.i64.wrap (z9 + (1 : Int)))
def vlt (L16 : Int → Y2 → Y5 → Int → Int → Z3) (k : Int → Y2 → Y5 → Z3) (n0 : Int) (t4 : Y2) (leq5 : Y5) (z9 : Int) : Z3 :=
  cond (decide (z9 < n0))
  (L16 n0 t4 leq5 z9 (0 : Int))
  (k n0 t4 leq5)
def vcp (L24 : Int → Y2 → Y5 → Y2 → Int → Z3) (n0 : Int) (t4 : Y2) (leq5 : Y5) : Z3 :=
  L24 n0 t4 leq5 ([], ()) (0 : Int)
def vsk (rec : Int → Z12 → Y2 → Y5 → Int → Z3) (k : Int → Y2 → Y5 → Z3) (n0 : Int) (pairs1 : Z12) (t4 : Y2) (leq5 : Y5) (i8 : Int) : Z3 :=
  cond (decide (i8 < (pairs1.length : Int)))
  ((atI pairs1 i8).bind fun xq5 =>
  (atI leq5 xq5.1).bind fun _ =>
  (leq5[xq5.1.toNat]?).bind fun xq6 =>
  (atI pairs1 i8).bind fun xq7 =>
  (leq5[xq5.1.toNat]?).bind fun xq8 =>
  (atI xq8 xq7.2.1).bind fun _ =>
  (leq5[xq5.1.toNat]?).bind fun xq9 =>
  (xq9[xq7.2.1.toNat]?).bind fun xq10 =>
  rec n0 pairs1 t4 (leq5.set xq5.1.toNat (xq9.set xq7.2.1.toNat true)) (IntKind.i64.wrap (i8 + (1 : Int))))
  (k n0 t4 leq5)
def vqo (L13 : Int → Y2 → Y5 → Int → Z3) (n0 : Int) (t4 : Y2) (leq5 : Y5) : Z3 :=
  L13 n0 t4 leq5 (0 : Int)
def vux (rec : Int → Z12 → Y2 → Y5 → Int → Z3) (k : Int → Z12 → Y2 → Y5 → Z3) (n0 : Int) (pairs1 : Z12) (t4 : Y2) (leq5 : Y5) (x6 : Int) : Z3 :=
  cond (decide (x6 < n0))
  ((mkI false n0).bind fun xq1 => (mkI false n0).bind fun xq2 => cond (decide (n0 ≤ n0))
  ((atI xq2 x6).bind fun _ =>
  (xq2[x6.toNat]?).bind fun xq3 =>
  (appI leq5 [xq2.set x6.toNat true]).bind fun xq4 =>
  rec n0 pairs1 t4 xq4 (IntKind.i64.wrap (x6 + (1 : Int))))
  none)
  (k n0 pairs1 t4 leq5)
def vqt (L9 : Int → Z12 → Y2 → Y5 → Int → Z3) (n0 : Int) (pairs1 : Z12) (t4 : Y2) (leq5 : Y5) : Z3 :=
  L9 n0 pairs1 t4 leq5 (0 : Int)
def vbaj (L3 : Int → Z12 → Y2 → Y5 → Int → Z3) (n_0 : Int) (pairs_1 : Z12) : Z3 :=
  L3 n_0 pairs_1 (([] : Y3), ()) [] (0 : Int)
def vnv (N : Nat) (k : Int → Y2 → Y5 → Int → Int → Z3) : Nat → Int → Y2 → Y5 → Int → Int → Int → Z3
  | 0, _, _, _, _, _, _ => none
  | m + 1, n0, t4, leq5, z9, x10, y11 => vqc (vnv N k m) k n0 t4 leq5 z9 x10 y11
def vvb (N : Nat) (rec : Int → Y2 → Y5 → Int → Int → Z3) (k : Int → Y2 → Y5 → Int → Z3) (n0 : Int) (t4 : Y2) (leq5 : Y5) (z9 x10 y11 : Int) : Z3 := vnv N (vjm rec) N n0 t4 leq5 z9 x10 y11
def vjq (N : Nat) (k : Int → Y2 → Y5 → Int → Z3) : Nat → Int → Y2 → Y5 → Int → Int → Z3
  | 0, _, _, _, _, _ => none
  | m + 1, n0, t4, leq5, z9, x10 => voz (vvb N (vjq N k m) k) k n0 t4 leq5 z9 x10
def vsz (N : Nat) (rec : Int → Y2 → Y5 → Int → Z3) (k : Int → Y2 → Y5 → Z3) (n0 : Int) (t4 : Y2) (leq5 : Y5) (z9 x10 : Int) : Z3 := vjq N (vcx rec) N n0 t4 leq5 z9 x10
def vnl (N : Nat) (k : Int → Y2 → Y5 → Y2 → Int → Y4 → Z3) : Nat → Int → Y2 → Y5 → Y2 → Int → Y4 → Int → Z3
  | 0, _, _, _, _, _, _, _ => none
  | m + 1, n0, t4, leq5, p12, y13, below14, x15 => vpy (vnl N k m) k n0 t4 leq5 p12 y13 below14 x15
def vtv (N : Nat) (rec : Int → Y2 → Y5 → Y2 → Int → Z3) (k : Y2 → Y2 → Z3) (n0 : Int) (t4 : Y2) (leq5 : Y5) (p12 : Y2) (y13 : Int) (below14 : Y4) (x15 : Int) : Z3 := vnl N (vgl rec) N n0 t4 leq5 p12 y13 below14 x15
def vue (N : Nat) (k : Int → Z12 → Y2 → Y5 → Z3) : Nat → Int → Z12 → Y2 → Y5 → Int → Z3
  | 0, _, _, _, _, _ => none
  | m + 1, n0, pairs1, t4, leq5, x6 => vux (vue N k m) k n0 pairs1 t4 leq5 x6
def vsx (N : Nat) (k : Int → Y2 → Y5 → Z3) : Nat → Int → Z12 → Y2 → Y5 → Int → Z3
  | 0, _, _, _, _, _ => none
  | m + 1, n0, pairs1, t4, leq5, i8 => vsk (vsx N k m) k n0 pairs1 t4 leq5 i8
def vip (N : Nat) (k : Int → Y2 → Y5 → Z3) : Nat → Int → Y2 → Y5 → Int → Z3
  | 0, _, _, _, _ => none
  | m + 1, n0, t4, leq5, z9 => vlt (vsz N (vip N k m) k) k n0 t4 leq5 z9
def vhh (N : Nat) (k : Y2 → Y2 → Z3) : Nat → Int → Y2 → Y5 → Y2 → Int → Z3
  | 0, _, _, _, _, _ => none
  | m + 1, n0, t4, leq5, p12, y13 => vmo (vtv N (vhh N k m) k) k n0 t4 leq5 p12 y13
def vcf (N : Nat) (n0 : Int) (t4 : Y2) (leq5 : Y5) (p12 : Y2) (y13 : Int) : Z3 := vhh N (vcw) N n0 t4 leq5 p12 y13
def vei (N : Nat) (n0 : Int) (t4 : Y2) (leq5 : Y5) (z9 : Int) : Z3 := vip N (vcp (vcf N)) N n0 t4 leq5 z9
def vrf (N : Nat) (n0 : Int) (pairs1 : Z12) (t4 : Y2) (leq5 : Y5) (i8 : Int) : Z3 := vsx N (vqo (vei N)) N n0 pairs1 t4 leq5 i8
def vato (N : Nat) (n0 : Int) (pairs1 : Z12) (t4 : Y2) (leq5 : Y5) (x6 : Int) : Z3 := vue N (vqt (vrf N)) N n0 pairs1 t4 leq5 x6
def zz9 (N : Nat) (n_0 : Int) (pairs_1 : Z12) : Z3 := vbaj (vato N) n_0 pairs_1
def S_zz9 : Sig := { a := (.pair I (.pair (.sl (.pair I (.pair I .unit))) .unit)), md := [0, 0], mf := [], m := .unit, r := (.pair (.sl (.sl I)) .unit), rf := (.p (.o (.o .i)) .i), f := fun x => zz9 big x.1 x.2.1 }
def A_zz9 : Cfg := mkCfg tab [] [(6, [.as I .i, .as (.sl (.pair I (.pair I .unit))) .i, .drop, .drop, .as y1 (.o (.p (.o (.o .i)) .i)), .as (.sl (.sl .bool)) (.o (.o .i)), .as I .i]), (17, [.as I .i, .as (.sl (.pair I (.pair I .unit))) .i, .drop, .drop, .as y1 (.o (.p (.o (.o .i)) .i)), .as (.sl (.sl .bool)) (.o (.o .i))]), (18, [.as I .i, .as (.sl (.pair I (.pair I .unit))) .i, .drop, .drop, .as y1 (.o (.p (.o (.o .i)) .i)), .as (.sl (.sl .bool)) (.o (.o .i)), .drop, .drop, .as I .i]), (25, [.as I .i, .drop, .drop, .drop, .as y1 (.o (.p (.o (.o .i)) .i)), .as (.sl (.sl .bool)) (.o (.o .i))]), (26, [.as I .i, .drop, .drop, .drop, .as y1 (.o (.p (.o (.o .i)) .i)), .as (.sl (.sl .bool)) (.o (.o .i)), .drop, .drop, .drop, .as I .i]), (32, [.as I .i, .drop, .drop, .drop, .as y1 (.o (.p (.o (.o .i)) .i)), .as (.sl (.sl .bool)) (.o (.o .i)), .drop, .drop, .drop, .as I .i, .as I .i]), (45, [.as I .i, .drop, .drop, .drop, .as y1 (.o (.p (.o (.o .i)) .i)), .as (.sl (.sl .bool)) (.o (.o .i))]), (48, [.as I .i, .drop, .drop, .drop, .as y1 (.o (.p (.o (.o .i)) .i)), .as (.sl (.sl .bool)) (.o (.o .i)), .drop, .drop, .drop, .drop, .drop, .drop, .as y1 (.o (.p (.o (.o .i)) .i)), .as I .i]), (38, [.as I .i, .drop, .drop, .drop, .as y1 (.o (.p (.o (.o .i)) .i)), .as (.sl (.sl .bool)) (.o (.o .i)), .drop, .drop, .drop, .as I .i, .as I .i, .as I .i]), (29, [.as I .i, .drop, .drop, .drop, .as y1 (.o (.p (.o (.o .i)) .i)), .as (.sl (.sl .bool)) (.o (.o .i)), .drop, .drop, .drop, .as I .i]), (56, [.as I .i, .drop, .drop, .drop, .as y1 (.o (.p (.o (.o .i)) .i)), .as (.sl (.sl .bool)) (.o (.o .i)), .drop, .drop, .drop, .drop, .drop, .drop, .as y1 (.o (.p (.o (.o .i)) .i)), .as I .i, .as (.sl I) (.o .i), .as I .i]), (67, [.drop, .drop, .drop, .drop, .as y1 (.o (.p (.o (.o .i)) .i)), .drop, .drop, .drop, .drop, .drop, .drop, .drop, .as y1 (.o (.p (.o (.o .i)) .i))]), (35, [.as I .i, .drop, .drop, .drop, .as y1 (.o (.p (.o (.o .i)) .i)), .as (.sl (.sl .bool)) (.o (.o .i)), .drop, .drop, .drop, .as I .i, .as I .i]), (65, [.as I .i, .drop, .drop, .drop, .as y1 (.o (.p (.o (.o .i)) .i)), .as (.sl (.sl .bool)) (.o (.o .i)), .drop, .drop, .drop, .drop, .drop, .drop, .as y1 (.o (.p (.o (.o .i)) .i)), .as I .i, .as (.sl I) (.o .i)])]
noncomputable def vto (N n : Nat) (K : Ex → St → Z3) (n0 : Int) (pairs1 : Z12) (t4 : Y2) (leq5 : Y5) (x6 : Int) : Z3 := iter ((A_zz9).shape 6) (run (A_zz9) N (codeAt Try.f98 [1, 1, 0, 1, 0, 0])) n ([.val I .i n0, .val (.sl (.pair I (.pair I .unit))) .i pairs1, .u, .u, .val y1 (.o (.p (.o (.o .i)) .i)) t4, .val (.sl (.sl .bool)) (.o (.o .i)) leq5, .val I .i x6] ++ List.replicate 121 .u) K
noncomputable def vsp (N n : Nat) (K : Ex → St → Z3) (n0 : Int) (pairs1 : Z12) (t4 : Y2) (leq5 : Y5) (i8 : Int) : Z3 := iter ((A_zz9).shape 18) (run (A_zz9) N (codeAt Try.f98 [1, 1, 1, 0, 1, 0, 0])) n ([.val I .i n0, .val (.sl (.pair I (.pair I .unit))) .i pairs1, .u, .u, .val y1 (.o (.p (.o (.o .i)) .i)) t4, .val (.sl (.sl .bool)) (.o (.o .i)) leq5, .u, .u, .val I .i i8] ++ List.replicate 119 .u) K
noncomputable def vhc (N n : Nat) (K : Ex → St → Z3) (n0 : Int) (t4 : Y2) (leq5 : Y5) (z9 : Int) : Z3 := iter ((A_zz9).shape 26) (run (A_zz9) N (codeAt Try.f98 [1, 1, 1, 1, 0, 1, 0, 0])) n ([.val I .i n0, .u, .u, .u, .val y1 (.o (.p (.o (.o .i)) .i)) t4, .val (.sl (.sl .bool)) (.o (.o .i)) leq5, .u, .u, .u, .val I .i z9] ++ List.replicate 118 .u) K
noncomputable def vjo (N n : Nat) (K : Ex → St → Z3) (n0 : Int) (t4 : Y2) (leq5 : Y5) (z9 x10 : Int) : Z3 := iter ((A_zz9).shape 32) (run (A_zz9) N (codeAt Try.f98 [1, 1, 1, 1, 0, 1, 0, 0, 1, 0, 0, 1, 0, 0])) n ([.val I .i n0, .u, .u, .u, .val y1 (.o (.p (.o (.o .i)) .i)) t4, .val (.sl (.sl .bool)) (.o (.o .i)) leq5, .u, .u, .u, .val I .i z9, .val I .i x10] ++ List.replicate 117 .u) K
noncomputable def vjt (N n : Nat) (K : Ex → St → Z3) (n0 : Int) (t4 : Y2) (leq5 : Y5) (p12 : Y2) (y13 : Int) : Z3 := iter ((A_zz9).shape 48) (run (A_zz9) N (codeAt Try.f98 [1, 1, 1, 1, 1, 1, 0, 1, 0, 0])) n ([.val I .i n0, .u, .u, .u, .val y1 (.o (.p (.o (.o .i)) .i)) t4, .val (.sl (.sl .bool)) (.o (.o .i)) leq5, .u, .u, .u, .u, .u, .u, .val y1 (.o (.p (.o (.o .i)) .i)) p12, .val I .i y13] ++ List.replicate 114 .u) K
noncomputable def vpj (N n : Nat) (K : Ex → St → Z3) (n0 : Int) (t4 : Y2) (leq5 : Y5) (z9 x10 y11 : Int) : Z3 := iter ((A_zz9).shape 38) (run (A_zz9) N (codeAt Try.f98 [1, 1, 1, 1, 0, 1, 0, 0, 1, 0, 0, 1, 0, 0, 1, 0, 0, 1, 0, 0])) n ([.val I .i n0, .u, .u, .u, .val y1 (.o (.p (.o (.o .i)) .i)) t4, .val (.sl (.sl .bool)) (.o (.o .i)) leq5, .u, .u, .u, .val I .i z9, .val I .i x10, .val I .i y11] ++ List.replicate 116 .u) K
noncomputable def vmm (N n : Nat) (K : Ex → St → Z3) (n0 : Int) (t4 : Y2) (leq5 : Y5) (p12 : Y2) (y13 : Int) (below14 : Y4) (x15 : Int) : Z3 := iter ((A_zz9).shape 56) (run (A_zz9) N (codeAt Try.f98 [1, 1, 1, 1, 1, 1, 0, 1, 0, 0, 1, 0, 0, 1, 0, 1, 0, 0])) n ([.val I .i n0, .u, .u, .u, .val y1 (.o (.p (.o (.o .i)) .i)) t4, .val (.sl (.sl .bool)) (.o (.o .i)) leq5, .u, .u, .u, .u, .u, .u, .val y1 (.o (.p (.o (.o .i)) .i)) p12, .val I .i y13, .val (.sl I) (.o .i) below14, .val I .i x15] ++ List.replicate 112 .u) K
noncomputable abbrev vbt : Ex → St → Z3 := finish (A_zz9) S_zz9 Try.f98.results.toList
noncomputable abbrev vxt (kX : St → Z3) : Int → Z12 → Y2 → Y5 → Z3 := fun (n0 : Int) (pairs1 : Z12) (t4 : Y2) (leq5 : Y5) => kX ([.val I .i n0, .val (.sl (.pair I (.pair I .unit))) .i pairs1, .u, .u, .val y1 (.o (.p (.o (.o .i)) .i)) t4, .val (.sl (.sl .bool)) (.o (.o .i)) leq5] ++ List.replicate 122 .u)
noncomputable abbrev vads (kX : St → Z3) (kO : Nat → St → Z3) : Ex → St → Z3 := exK vbt 0 ((A_zz9).shape 17) kX kO
noncomputable abbrev vwv (kX : St → Z3) : Int → Y2 → Y5 → Z3 := fun (n0 : Int) (t4 : Y2) (leq5 : Y5) => kX ([.val I .i n0, .u, .u, .u, .val y1 (.o (.p (.o (.o .i)) .i)) t4, .val (.sl (.sl .bool)) (.o (.o .i)) leq5] ++ List.replicate 122 .u)
noncomputable abbrev vafg (kX : St → Z3) (kO : Nat → St → Z3) : Ex → St → Z3 := exK vbt 2 ((A_zz9).shape 25) kX kO
noncomputable abbrev vgt (kX : St → Z3) : Int → Y2 → Y5 → Z3 := fun (n0 : Int) (t4 : Y2) (leq5 : Y5) => kX ([.val I .i n0, .u, .u, .u, .val y1 (.o (.p (.o (.o .i)) .i)) t4, .val (.sl (.sl .bool)) (.o (.o .i)) leq5] ++ List.replicate 122 .u)
noncomputable abbrev vhk (kX : St → Z3) (kO : Nat → St → Z3) : Ex → St → Z3 := exK vbt 4 ((A_zz9).shape 45) kX kO
noncomputable abbrev vgg (kX : St → Z3) : Int → Y2 → Y5 → Int → Z3 := fun (n0 : Int) (t4 : Y2) (leq5 : Y5) (z9 : Int) => kX ([.val I .i n0, .u, .u, .u, .val y1 (.o (.p (.o (.o .i)) .i)) t4, .val (.sl (.sl .bool)) (.o (.o .i)) leq5, .u, .u, .u, .val I .i z9] ++ List.replicate 118 .u)
noncomputable abbrev vil (kX : St → Z3) (kO : Nat → St → Z3) : Ex → St → Z3 := exK vbt 6 ((A_zz9).shape 29) kX kO
noncomputable abbrev vkl (kX : St → Z3) : Y2 → Y2 → Z3 := fun (t4 p12 : Y2) => kX ([.u, .u, .u, .u, .val y1 (.o (.p (.o (.o .i)) .i)) t4, .u, .u, .u, .u, .u, .u, .u, .val y1 (.o (.p (.o (.o .i)) .i)) p12] ++ List.replicate 115 .u)
noncomputable abbrev vfs (kX : St → Z3) (kO : Nat → St → Z3) : Ex → St → Z3 := exK vbt 10 ((A_zz9).shape 67) kX kO
noncomputable abbrev vtx (kX : St → Z3) : Int → Y2 → Y5 → Int → Int → Z3 := fun (n0 : Int) (t4 : Y2) (leq5 : Y5) (z9 x10 : Int) => kX ([.val I .i n0, .u, .u, .u, .val y1 (.o (.p (.o (.o .i)) .i)) t4, .val (.sl (.sl .bool)) (.o (.o .i)) leq5, .u, .u, .u, .val I .i z9, .val I .i x10] ++ List.replicate 117 .u)
noncomputable abbrev vyu (kX : St → Z3) (kO : Nat → St → Z3) : Ex → St → Z3 := exK vbt 8 ((A_zz9).shape 35) kX kO
noncomputable abbrev vuz (kX : St → Z3) : Int → Y2 → Y5 → Y2 → Int → Y4 → Z3 := fun (n0 : Int) (t4 : Y2) (leq5 : Y5) (p12 : Y2) (y13 : Int) (below14 : Y4) => kX ([.val I .i n0, .u, .u, .u, .val y1 (.o (.p (.o (.o .i)) .i)) t4, .val (.sl (.sl .bool)) (.o (.o .i)) leq5, .u, .u, .u, .u, .u, .u, .val y1 (.o (.p (.o (.o .i)) .i)) p12, .val I .i y13, .val (.sl I) (.o .i) below14] ++ List.replicate 113 .u)
noncomputable abbrev vyn (kX : St → Z3) (kO : Nat → St → Z3) : Ex → St → Z3 := exK vbt 12 ((A_zz9).shape 65) kX kO
theorem vbfe (N m : Nat) (kX : St → Z3) (kO : Nat → St → Z3) (n0 : Int) (pairs1 : Z12) (t4 : Y2) (leq5 : Y5) (x6 : Int) : vto N (m + 1) (vads kX kO) n0 pairs1 t4 leq5 x6 = vux (vto N m (vads kX kO)) (vxt kX) n0 pairs1 t4 leq5 x6 := by kernel_rfl
theorem vaok (N : Nat) (kX : St → Z3) (kO : Nat → St → Z3) : ∀ (n : Nat) (n0 : Int) (pairs1 : Z12) (t4 : Y2) (leq5 : Y5) (x6 : Int), vto N n (vads kX kO) n0 pairs1 t4 leq5 x6 = vue N (vxt kX) n n0 pairs1 t4 leq5 x6
  | 0, _, _, _, _, _ => rfl
  | m + 1, n0, pairs1, t4, leq5, x6 => by
    have hrec : vto N m (vads kX kO) = (vue N (vxt kX) m) := (funext fun n0 => (funext fun pairs1 => (funext fun t4 => (funext fun leq5 => (funext fun x6 => vaok N kX kO m n0 pairs1 t4 leq5 x6)))))
    refine (vbfe N m kX kO n0 pairs1 t4 leq5 x6).trans ?_
    rw [hrec]
    rfl
noncomputable abbrev vaum (N : Nat) : Ex → St → Z3 := (blockK 0 (seqK ((A_zz9).shape 17) (gated ((A_zz9).shape 500008).isSome N (run (A_zz9) N (codeAt Try.f98 [1, 1, 1]))) vbt))
theorem vbfw (N m : Nat) (kX : St → Z3) (kO : Nat → St → Z3) (n0 : Int) (pairs1 : Z12) (t4 : Y2) (leq5 : Y5) (i8 : Int) : vsp N (m + 1) (vafg kX kO) n0 pairs1 t4 leq5 i8 = vsk (vsp N m (vafg kX kO)) (vwv kX) n0 pairs1 t4 leq5 i8 := by kernel_rfl
theorem vaoa (N : Nat) (kX : St → Z3) (kO : Nat → St → Z3) : ∀ (n : Nat) (n0 : Int) (pairs1 : Z12) (t4 : Y2) (leq5 : Y5) (i8 : Int), vsp N n (vafg kX kO) n0 pairs1 t4 leq5 i8 = vsx N (vwv kX) n n0 pairs1 t4 leq5 i8
  | 0, _, _, _, _, _ => rfl
  | m + 1, n0, pairs1, t4, leq5, i8 => by
    have hrec : vsp N m (vafg kX kO) = (vsx N (vwv kX) m) := (funext fun n0 => (funext fun pairs1 => (funext fun t4 => (funext fun leq5 => (funext fun i8 => vaoa N kX kO m n0 pairs1 t4 leq5 i8)))))
    refine (vbfw N m kX kO n0 pairs1 t4 leq5 i8).trans ?_
    rw [hrec]
    rfl
noncomputable abbrev vaqz (N : Nat) : Ex → St → Z3 := (blockK 2 (seqK ((A_zz9).shape 25) (gated ((A_zz9).shape 500012).isSome N (run (A_zz9) N (codeAt Try.f98 [1, 1, 1, 1]))) vbt))
theorem vbbe (N m : Nat) (kX : St → Z3) (kO : Nat → St → Z3) (n0 : Int) (t4 : Y2) (leq5 : Y5) (z9 x10 y11 : Int) : vpj N (m + 1) (vyu kX kO) n0 t4 leq5 z9 x10 y11 = vqc (vpj N m (vyu kX kO)) (vtx kX) n0 t4 leq5 z9 x10 y11 := by kernel_rfl
theorem vade (N : Nat) (kX : St → Z3) (kO : Nat → St → Z3) : ∀ (n : Nat) (n0 : Int) (t4 : Y2) (leq5 : Y5) (z9 x10 y11 : Int), vpj N n (vyu kX kO) n0 t4 leq5 z9 x10 y11 = vnv N (vtx kX) n n0 t4 leq5 z9 x10 y11
  | 0, _, _, _, _, _, _ => rfl
  | m + 1, n0, t4, leq5, z9, x10, y11 => by
    have hrec : vpj N m (vyu kX kO) = (vnv N (vtx kX) m) := (funext fun n0 => (funext fun t4 => (funext fun leq5 => (funext fun z9 => (funext fun x10 => (funext fun y11 => vade N kX kO m n0 t4 leq5 z9 x10 y11))))))
    refine (vbbe N m kX kO n0 t4 leq5 z9 x10 y11).trans ?_
    rw [hrec]
    rfl
noncomputable abbrev vamb (N m : Nat) (kX : St → Z3) (kO : Nat → St → Z3) : Ex → St → Z3 := (blockK 8 (blockK 7 (seqK ((A_zz9).shape 35) (gated ((A_zz9).shape 500017).isSome N (run (A_zz9) N (codeAt Try.f98 [1, 1, 1, 1, 0, 1, 0, 0, 1, 0, 0, 1, 0, 0, 1, 1]))) (iterK ((A_zz9).shape 32) (run (A_zz9) N (codeAt Try.f98 [1, 1, 1, 1, 0, 1, 0, 0, 1, 0, 0, 1, 0, 0])) m (vil kX kO)))))
noncomputable abbrev vahp (N m : Nat) (kX : St → Z3) (kO : Nat → St → Z3) : St → Z3 := fun st' => run (A_zz9) N (codeAt Try.f98 [1, 1, 1, 1, 0, 1, 0, 0, 1, 0, 0, 1, 0, 0, 1, 1]) st' (iterK ((A_zz9).shape 32) (run (A_zz9) N (codeAt Try.f98 [1, 1, 1, 1, 0, 1, 0, 0, 1, 0, 0, 1, 0, 0])) m (vil kX kO))
theorem vaxp (N m : Nat) (kX : St → Z3) (kO : Nat → St → Z3) (n0 : Int) (t4 : Y2) (leq5 : Y5) (z9 x10 : Int) : vtx (vahp N m kX kO) n0 t4 leq5 z9 x10 = vjm (vjo N m (vil kX kO)) n0 t4 leq5 z9 x10 := by kernel_rfl
theorem vbjr (N m : Nat) (kX : St → Z3) (kO : Nat → St → Z3) (recF : Int → Y2 → Y5 → Int → Int → Z3) (hrec : vjo N m (vil kX kO) = recF) (n0 : Int) (t4 : Y2) (leq5 : Y5) (z9 x10 y11 : Int) : vpj N N (vamb N m kX kO) n0 t4 leq5 z9 x10 y11 = vvb N recF (vgg kX) n0 t4 leq5 z9 x10 y11 :=
  have h : vtx (vahp N m kX kO) = (vjm recF) := (funext fun n0 => (funext fun t4 => (funext fun leq5 => (funext fun z9 => (funext fun x10 => (vaxp N m kX kO n0 t4 leq5 z9 x10).trans (by rw [hrec]))))))
  ((vad (fun st => by kernel_rfl) (fun st => by kernel_rfl)).trans (vade N (vahp N m kX kO) (fun j st => (vamb N m kX kO) (.exit j) st) N n0 t4 leq5 z9 x10 y11)).trans (congrArg (fun k => vnv N k N n0 t4 leq5 z9 x10 y11) h)
theorem vbci (N m : Nat) (kX : St → Z3) (kO : Nat → St → Z3) (n0 : Int) (t4 : Y2) (leq5 : Y5) (z9 x10 : Int) : vjo N (m + 1) (vil kX kO) n0 t4 leq5 z9 x10 = voz (vpj N N (vamb N m kX kO)) (vgg kX) n0 t4 leq5 z9 x10 := by kernel_rfl
theorem vadx (N : Nat) (kX : St → Z3) (kO : Nat → St → Z3) : ∀ (n : Nat) (n0 : Int) (t4 : Y2) (leq5 : Y5) (z9 x10 : Int), vjo N n (vil kX kO) n0 t4 leq5 z9 x10 = vjq N (vgg kX) n n0 t4 leq5 z9 x10
  | 0, _, _, _, _, _ => rfl
  | m + 1, n0, t4, leq5, z9, x10 => by
    have hrec : vjo N m (vil kX kO) = (vjq N (vgg kX) m) := (funext fun n0 => (funext fun t4 => (funext fun leq5 => (funext fun z9 => (funext fun x10 => vadx N kX kO m n0 t4 leq5 z9 x10)))))
    refine (vbci N m kX kO n0 t4 leq5 z9 x10).trans ?_
    rw [(funext fun n0 => (funext fun t4 => (funext fun leq5 => (funext fun z9 => (funext fun x10 => (funext fun y11 => vbjr N m kX kO (vjq N (vgg kX) m) hrec n0 t4 leq5 z9 x10 y11))))))]
    rfl
noncomputable abbrev vagk (N m : Nat) (kX : St → Z3) (kO : Nat → St → Z3) : Ex → St → Z3 := (blockK 6 (blockK 5 (seqK ((A_zz9).shape 29) (gated ((A_zz9).shape 500014).isSome N (run (A_zz9) N (codeAt Try.f98 [1, 1, 1, 1, 0, 1, 0, 0, 1, 1]))) (iterK ((A_zz9).shape 26) (run (A_zz9) N (codeAt Try.f98 [1, 1, 1, 1, 0, 1, 0, 0])) m (vhk kX kO)))))
noncomputable abbrev vagu (N m : Nat) (kX : St → Z3) (kO : Nat → St → Z3) : St → Z3 := fun st' => run (A_zz9) N (codeAt Try.f98 [1, 1, 1, 1, 0, 1, 0, 0, 1, 1]) st' (iterK ((A_zz9).shape 26) (run (A_zz9) N (codeAt Try.f98 [1, 1, 1, 1, 0, 1, 0, 0])) m (vhk kX kO))
theorem vawb (N m : Nat) (kX : St → Z3) (kO : Nat → St → Z3) (n0 : Int) (t4 : Y2) (leq5 : Y5) (z9 : Int) : vgg (vagu N m kX kO) n0 t4 leq5 z9 = vcx (vhc N m (vhk kX kO)) n0 t4 leq5 z9 := by kernel_rfl
theorem vbig (N m : Nat) (kX : St → Z3) (kO : Nat → St → Z3) (recF : Int → Y2 → Y5 → Int → Z3) (hrec : vhc N m (vhk kX kO) = recF) (n0 : Int) (t4 : Y2) (leq5 : Y5) (z9 x10 : Int) : vjo N N (vagk N m kX kO) n0 t4 leq5 z9 x10 = vsz N recF (vgt kX) n0 t4 leq5 z9 x10 :=
  have h : vgg (vagu N m kX kO) = (vcx recF) := (funext fun n0 => (funext fun t4 => (funext fun leq5 => (funext fun z9 => (vawb N m kX kO n0 t4 leq5 z9).trans (by rw [hrec])))))
  ((vad (fun st => by kernel_rfl) (fun st => by kernel_rfl)).trans (vadx N (vagu N m kX kO) (fun j st => (vagk N m kX kO) (.exit j) st) N n0 t4 leq5 z9 x10)).trans (congrArg (fun k => vjq N k N n0 t4 leq5 z9 x10) h)
theorem vbbw (N m : Nat) (kX : St → Z3) (kO : Nat → St → Z3) (n0 : Int) (t4 : Y2) (leq5 : Y5) (z9 : Int) : vhc N (m + 1) (vhk kX kO) n0 t4 leq5 z9 = vlt (vjo N N (vagk N m kX kO)) (vgt kX) n0 t4 leq5 z9 := by kernel_rfl
theorem vafv (N : Nat) (kX : St → Z3) (kO : Nat → St → Z3) : ∀ (n : Nat) (n0 : Int) (t4 : Y2) (leq5 : Y5) (z9 : Int), vhc N n (vhk kX kO) n0 t4 leq5 z9 = vip N (vgt kX) n n0 t4 leq5 z9
  | 0, _, _, _, _ => rfl
  | m + 1, n0, t4, leq5, z9 => by
    have hrec : vhc N m (vhk kX kO) = (vip N (vgt kX) m) := (funext fun n0 => (funext fun t4 => (funext fun leq5 => (funext fun z9 => vafv N kX kO m n0 t4 leq5 z9))))
    refine (vbbw N m kX kO n0 t4 leq5 z9).trans ?_
    rw [(funext fun n0 => (funext fun t4 => (funext fun leq5 => (funext fun z9 => (funext fun x10 => vbig N m kX kO (vip N (vgt kX) m) hrec n0 t4 leq5 z9 x10)))))]
    rfl
noncomputable abbrev vame (N : Nat) : Ex → St → Z3 := (blockK 4 (seqK ((A_zz9).shape 45) (gated ((A_zz9).shape 500022).isSome N (run (A_zz9) N (codeAt Try.f98 [1, 1, 1, 1, 1]))) vbt))
theorem vbaz (N m : Nat) (kX : St → Z3) (kO : Nat → St → Z3) (n0 : Int) (t4 : Y2) (leq5 : Y5) (p12 : Y2) (y13 : Int) (below14 : Y4) (x15 : Int) : vmm N (m + 1) (vyn kX kO) n0 t4 leq5 p12 y13 below14 x15 = vpy (vmm N m (vyn kX kO)) (vuz kX) n0 t4 leq5 p12 y13 below14 x15 := by kernel_rfl
theorem vacl (N : Nat) (kX : St → Z3) (kO : Nat → St → Z3) : ∀ (n : Nat) (n0 : Int) (t4 : Y2) (leq5 : Y5) (p12 : Y2) (y13 : Int) (below14 : Y4) (x15 : Int), vmm N n (vyn kX kO) n0 t4 leq5 p12 y13 below14 x15 = vnl N (vuz kX) n n0 t4 leq5 p12 y13 below14 x15
  | 0, _, _, _, _, _, _, _ => rfl
  | m + 1, n0, t4, leq5, p12, y13, below14, x15 => by
    have hrec : vmm N m (vyn kX kO) = (vnl N (vuz kX) m) := (funext fun n0 => (funext fun t4 => (funext fun leq5 => (funext fun p12 => (funext fun y13 => (funext fun below14 => (funext fun x15 => vacl N kX kO m n0 t4 leq5 p12 y13 below14 x15)))))))
    refine (vbaz N m kX kO n0 t4 leq5 p12 y13 below14 x15).trans ?_
    rw [hrec]
    rfl
noncomputable abbrev valg (N m : Nat) (kX : St → Z3) (kO : Nat → St → Z3) : Ex → St → Z3 := (blockK 12 (seqK ((A_zz9).shape 65) (gated ((A_zz9).shape 500032).isSome N (run (A_zz9) N (codeAt Try.f98 [1, 1, 1, 1, 1, 1, 0, 1, 0, 0, 1, 0, 0, 1, 1]))) (blockK 11 (seqK ((A_zz9).shape 51) (gated ((A_zz9).shape 500025).isSome N (run (A_zz9) N (codeAt Try.f98 [1, 1, 1, 1, 1, 1, 0, 1, 0, 0, 1, 1]))) (iterK ((A_zz9).shape 48) (run (A_zz9) N (codeAt Try.f98 [1, 1, 1, 1, 1, 1, 0, 1, 0, 0])) m (vfs kX kO))))))
noncomputable abbrev vakc (N m : Nat) (kX : St → Z3) (kO : Nat → St → Z3) : St → Z3 := fun st' => run (A_zz9) N (codeAt Try.f98 [1, 1, 1, 1, 1, 1, 0, 1, 0, 0, 1, 0, 0, 1, 1]) st' (blockK 11 (seqK ((A_zz9).shape 51) (gated ((A_zz9).shape 500025).isSome N (run (A_zz9) N (codeAt Try.f98 [1, 1, 1, 1, 1, 1, 0, 1, 0, 0, 1, 1]))) (iterK ((A_zz9).shape 48) (run (A_zz9) N (codeAt Try.f98 [1, 1, 1, 1, 1, 1, 0, 1, 0, 0])) m (vfs kX kO))))
theorem vaxi (N m : Nat) (kX : St → Z3) (kO : Nat → St → Z3) (n0 : Int) (t4 : Y2) (leq5 : Y5) (p12 : Y2) (y13 : Int) (below14 : Y4) : vuz (vakc N m kX kO) n0 t4 leq5 p12 y13 below14 = vgl (vjt N m (vfs kX kO)) n0 t4 leq5 p12 y13 below14 := by kernel_rfl
theorem vbjb (N m : Nat) (kX : St → Z3) (kO : Nat → St → Z3) (recF : Int → Y2 → Y5 → Y2 → Int → Z3) (hrec : vjt N m (vfs kX kO) = recF) (n0 : Int) (t4 : Y2) (leq5 : Y5) (p12 : Y2) (y13 : Int) (below14 : Y4) (x15 : Int) : vmm N N (valg N m kX kO) n0 t4 leq5 p12 y13 below14 x15 = vtv N recF (vkl kX) n0 t4 leq5 p12 y13 below14 x15 :=
  have h : vuz (vakc N m kX kO) = (vgl recF) := (funext fun n0 => (funext fun t4 => (funext fun leq5 => (funext fun p12 => (funext fun y13 => (funext fun below14 => (vaxi N m kX kO n0 t4 leq5 p12 y13 below14).trans (by rw [hrec])))))))
  ((vad (fun st => by kernel_rfl) (fun st => by kernel_rfl)).trans (vacl N (vakc N m kX kO) (fun j st => (valg N m kX kO) (.exit j) st) N n0 t4 leq5 p12 y13 below14 x15)).trans (congrArg (fun k => vnl N k N n0 t4 leq5 p12 y13 below14 x15) h)
theorem vbdq (N m : Nat) (kX : St → Z3) (kO : Nat → St → Z3) (n0 : Int) (t4 : Y2) (leq5 : Y5) (p12 : Y2) (y13 : Int) : vjt N (m + 1) (vfs kX kO) n0 t4 leq5 p12 y13 = vmo (vmm N N (valg N m kX kO)) (vkl kX) n0 t4 leq5 p12 y13 := by kernel_rfl
theorem vacn (N : Nat) (kX : St → Z3) (kO : Nat → St → Z3) : ∀ (n : Nat) (n0 : Int) (t4 : Y2) (leq5 : Y5) (p12 : Y2) (y13 : Int), vjt N n (vfs kX kO) n0 t4 leq5 p12 y13 = vhh N (vkl kX) n n0 t4 leq5 p12 y13
  | 0, _, _, _, _, _ => rfl
  | m + 1, n0, t4, leq5, p12, y13 => by
    have hrec : vjt N m (vfs kX kO) = (vhh N (vkl kX) m) := (funext fun n0 => (funext fun t4 => (funext fun leq5 => (funext fun p12 => (funext fun y13 => vacn N kX kO m n0 t4 leq5 p12 y13)))))
    refine (vbdq N m kX kO n0 t4 leq5 p12 y13).trans ?_
    rw [(funext fun n0 => (funext fun t4 => (funext fun leq5 => (funext fun p12 => (funext fun y13 => (funext fun below14 => (funext fun x15 => vbjb N m kX kO (vhh N (vkl kX) m) hrec n0 t4 leq5 p12 y13 below14 x15)))))))]
    rfl
noncomputable abbrev vain (N : Nat) : Ex → St → Z3 := (blockK 10 (seqK ((A_zz9).shape 67) (gated ((A_zz9).shape 500033).isSome N (run (A_zz9) N (codeAt Try.f98 [1, 1, 1, 1, 1, 1, 1]))) vbt))
noncomputable abbrev vajg (N : Nat) : St → Z3 := fun st' => run (A_zz9) N (codeAt Try.f98 [1, 1, 1, 1, 1, 1, 1]) st' vbt
theorem vayj (N : Nat) (t4 p12 : Y2) : vkl (vajg N) t4 p12 = vcw t4 p12 := by kernel_rfl
theorem vbkh (N : Nat) (n0 : Int) (t4 : Y2) (leq5 : Y5) (p12 : Y2) (y13 : Int) : vjt N N (vain N) n0 t4 leq5 p12 y13 = vcf N n0 t4 leq5 p12 y13 :=
  have h : vkl (vajg N) = (vcw) := (funext fun t4 => (funext fun p12 => vayj N t4 p12))
  ((vad (fun st => by kernel_rfl) (fun st => by kernel_rfl)).trans (vacn N (vajg N) (fun j st => (vain N) (.exit j) st) N n0 t4 leq5 p12 y13)).trans (congrArg (fun k => vhh N k N n0 t4 leq5 p12 y13) h)
noncomputable abbrev vakt (N : Nat) : St → Z3 := fun st' => run (A_zz9) N (codeAt Try.f98 [1, 1, 1, 1, 1]) st' vbt
theorem vawu (N : Nat) (n0 : Int) (t4 : Y2) (leq5 : Y5) : vgt (vakt N) n0 t4 leq5 = vcp (vjt N N (vain N)) n0 t4 leq5 := by kernel_rfl
theorem vbjw (N : Nat) (n0 : Int) (t4 : Y2) (leq5 : Y5) (z9 : Int) : vhc N N (vame N) n0 t4 leq5 z9 = vei N n0 t4 leq5 z9 :=
  have h : vgt (vakt N) = (vcp (vcf N)) := (funext fun n0 => (funext fun t4 => (funext fun leq5 => (vawu N n0 t4 leq5).trans (by rw [(funext fun n0 => (funext fun t4 => (funext fun leq5 => (funext fun p12 => (funext fun y13 => vbkh N n0 t4 leq5 p12 y13)))))]))))
  ((vad (fun st => by kernel_rfl) (fun st => by kernel_rfl)).trans (vafv N (vakt N) (fun j st => (vame N) (.exit j) st) N n0 t4 leq5 z9)).trans (congrArg (fun k => vip N k N n0 t4 leq5 z9) h)
noncomputable abbrev vapr (N : Nat) : St → Z3 := fun st' => run (A_zz9) N (codeAt Try.f98 [1, 1, 1, 1]) st' vbt
theorem vbcd (N : Nat) (n0 : Int) (t4 : Y2) (leq5 : Y5) : vwv (vapr N) n0 t4 leq5 = vqo (vhc N N (vame N)) n0 t4 leq5 := by kernel_rfl
theorem vbpg (N : Nat) (n0 : Int) (pairs1 : Z12) (t4 : Y2) (leq5 : Y5) (i8 : Int) : vsp N N (vaqz N) n0 pairs1 t4 leq5 i8 = vrf N n0 pairs1 t4 leq5 i8 :=
  have h : vwv (vapr N) = (vqo (vei N)) := (funext fun n0 => (funext fun t4 => (funext fun leq5 => (vbcd N n0 t4 leq5).trans (by rw [(funext fun n0 => (funext fun t4 => (funext fun leq5 => (funext fun z9 => vbjw N n0 t4 leq5 z9))))]))))
  ((vad (fun st => by kernel_rfl) (fun st => by kernel_rfl)).trans (vaoa N (vapr N) (fun j st => (vaqz N) (.exit j) st) N n0 pairs1 t4 leq5 i8)).trans (congrArg (fun k => vsx N k N n0 pairs1 t4 leq5 i8) h)
noncomputable abbrev vapt (N : Nat) : St → Z3 := fun st' => run (A_zz9) N (codeAt Try.f98 [1, 1, 1]) st' vbt
theorem vbbk (N : Nat) (n0 : Int) (pairs1 : Z12) (t4 : Y2) (leq5 : Y5) : vxt (vapt N) n0 pairs1 t4 leq5 = vqt (vsp N N (vaqz N)) n0 pairs1 t4 leq5 := by kernel_rfl
theorem vbpn (N : Nat) (n0 : Int) (pairs1 : Z12) (t4 : Y2) (leq5 : Y5) (x6 : Int) : vto N N (vaum N) n0 pairs1 t4 leq5 x6 = vato N n0 pairs1 t4 leq5 x6 :=
  have h : vxt (vapt N) = (vqt (vrf N)) := (funext fun n0 => (funext fun pairs1 => (funext fun t4 => (funext fun leq5 => (vbbk N n0 pairs1 t4 leq5).trans (by rw [(funext fun n0 => (funext fun pairs1 => (funext fun t4 => (funext fun leq5 => (funext fun i8 => vbpg N n0 pairs1 t4 leq5 i8)))))])))))
  ((vad (fun st => by kernel_rfl) (fun st => by kernel_rfl)).trans (vaok N (vapt N) (fun j st => (vaum N) (.exit j) st) N n0 pairs1 t4 leq5 x6)).trans (congrArg (fun k => vue N k N n0 pairs1 t4 leq5 x6) h)
theorem run0_zz9 (N : Nat) (x : (S_zz9).a.den) : runF (A_zz9) N Try.f98 S_zz9 x = (vbaj (vto N N (vaum N)) x.1 x.2.1) := by kernel_rfl
theorem run_zz9 (N : Nat) (x : (S_zz9).a.den) : runF (A_zz9) N Try.f98 S_zz9 x = zz9 N x.1 x.2.1 := by
  refine (run0_zz9 N x).trans ?_
  rw [(funext fun n0 => (funext fun pairs1 => (funext fun t4 => (funext fun leq5 => (funext fun x6 => vbpn N n0 pairs1 t4 leq5 x6)))))]
  rfl
theorem fn_zz9 : FnOk Try.prog 98 := ⟨_, Try.func98, by kernel_rfl, by kernel_rfl⟩
theorem good_zz9 : Gx.Good Try.prog 98 S_zz9 := vaa Try.func98 (of_decide_eq_true (by kernel_rfl)) fun x r h => ⟨A_zz9, big, vac tabOk, vab (show SigsOk Try.prog [] from trivial), (run_zz9 big x).trans h⟩
def vnn (rec k : Y4 → Int → Int → Z5) (l0 : Y4) (n1 k5 : Int) : Z5 :=
  cond (decide (k5 < (l0.length : Int)))
  ((atI l0 k5).bind fun xq1 =>
  cond (decide (xq1 < n1))
  (rec l0 n1 (IntKind.i64.wrap (k5 + (1 : Int))))
  (k l0 n1 k5))
  (k l0 n1 k5)
def veg (l0 : Y4) (n1 k5 : Int) : Z5 :=
  cond (decide (k5 < (l0.length : Int)))
  ((atI l0 k5).bind fun xq2 =>
  cond (decide (xq2 = n1))
  (some (l0, (())))
  ((slI l0 0 k5).bind fun xq3 =>
  (appI [] xq3).bind fun xq4 =>
  (appI xq4 [n1]).bind fun xq5 =>
  (slI l0 k5 l0.length).bind fun xq6 =>
  (appI xq5 xq6).bind fun xq7 =>
  some (xq7, (()))))
  ((slI l0 0 k5).bind fun xq8 =>
  (appI [] xq8).bind fun xq9 =>
  (appI xq9 [n1]).bind fun xq10 =>
  (slI l0 k5 l0.length).bind fun xq11 =>
  (appI xq10 xq11).bind fun xq12 =>
  some (xq12, (())))
def vark (L2 : Y4 → Int → Int → Z5) (l_0 : Y4) (n_1 : Int) : Z5 :=
  L2 l_0 n_1 (0 : Int)
def vmd (N : Nat) (k : Y4 → Int → Int → Z5) : Nat → Y4 → Int → Int → Z5
  | 0, _, _, _ => none
  | m + 1, l0, n1, k5 => vnn (vmd N k m) k l0 n1 k5
def vait (N : Nat) (l0 : Y4) (n1 k5 : Int) : Z5 := vmd N (veg) N l0 n1 k5
def zz10 (N : Nat) (l_0 : Y4) (n_1 : Int) : Z5 := vark (vait N) l_0 n_1
def S_zz10 : Sig := { a := (.pair (.sl I) (.pair I .unit)), md := [0, 0], mf := [], m := .unit, r := (.sl I), rf := .i, f := fun x => zz10 big x.1 x.2.1 }
def A_zz10 : Cfg := mkCfg tab [] [(4, [.as (.sl I) .i, .as I .i, .drop, .drop, .drop, .as I .i]), (9, [.as (.sl I) .i, .as I .i, .drop, .drop, .drop, .as I .i])]
noncomputable def vme (N n : Nat) (K : Ex → St → Z5) (l0 : Y4) (n1 k5 : Int) : Z5 := iter ((A_zz10).shape 4) (run (A_zz10) N (codeAt Try.f120 [1, 1, 0, 0, 0])) n ([.val (.sl I) .i l0, .val I .i n1, .u, .u, .u, .val I .i k5] ++ List.replicate 39 .u) K
noncomputable abbrev vasn : Ex → St → Z5 := finish (A_zz10) S_zz10 Try.f120.results.toList
noncomputable abbrev vth (kX : St → Z5) : Y4 → Int → Int → Z5 := fun (l0 : Y4) (n1 k5 : Int) => kX ([.val (.sl I) .i l0, .val I .i n1, .u, .u, .u, .val I .i k5] ++ List.replicate 39 .u)
noncomputable abbrev vzj (kX : St → Z5) (kO : Nat → St → Z5) : Ex → St → Z5 := exK vasn 0 ((A_zz10).shape 9) kX kO
theorem vbco (N m : Nat) (kX : St → Z5) (kO : Nat → St → Z5) (l0 : Y4) (n1 k5 : Int) : vme N (m + 1) (vzj kX kO) l0 n1 k5 = vnn (vme N m (vzj kX kO)) (vth kX) l0 n1 k5 := by kernel_rfl
theorem vadt (N : Nat) (kX : St → Z5) (kO : Nat → St → Z5) : ∀ (n : Nat) (l0 : Y4) (n1 k5 : Int), vme N n (vzj kX kO) l0 n1 k5 = vmd N (vth kX) n l0 n1 k5
  | 0, _, _, _ => rfl
  | m + 1, l0, n1, k5 => by
    have hrec : vme N m (vzj kX kO) = (vmd N (vth kX) m) := (funext fun l0 => (funext fun n1 => (funext fun k5 => vadt N kX kO m l0 n1 k5)))
    refine (vbco N m kX kO l0 n1 k5).trans ?_
    rw [hrec]
    rfl
noncomputable abbrev valv (N : Nat) : Ex → St → Z5 := (blockK 0 (seqK ((A_zz10).shape 9) (gated ((A_zz10).shape 500004).isSome N (run (A_zz10) N (codeAt Try.f120 [1, 1, 1]))) vasn))
noncomputable abbrev vaht (N : Nat) : St → Z5 := fun st' => run (A_zz10) N (codeAt Try.f120 [1, 1, 1]) st' vasn
theorem vaye (N : Nat) (l0 : Y4) (n1 k5 : Int) : vth (vaht N) l0 n1 k5 = veg l0 n1 k5 := by kernel_rfl
theorem vbih (N : Nat) (l0 : Y4) (n1 k5 : Int) : vme N N (valv N) l0 n1 k5 = vait N l0 n1 k5 :=
  have h : vth (vaht N) = (veg) := (funext fun l0 => (funext fun n1 => (funext fun k5 => vaye N l0 n1 k5)))
  ((vad (fun st => by kernel_rfl) (fun st => by kernel_rfl)).trans (vadt N (vaht N) (fun j st => (valv N) (.exit j) st) N l0 n1 k5)).trans (congrArg (fun k => vmd N k N l0 n1 k5) h)
theorem run0_zz10 (N : Nat) (x : (S_zz10).a.den) : runF (A_zz10) N Try.f120 S_zz10 x = (vark (vme N N (valv N)) x.1 x.2.1) := by kernel_rfl
theorem run_zz10 (N : Nat) (x : (S_zz10).a.den) : runF (A_zz10) N Try.f120 S_zz10 x = zz10 N x.1 x.2.1 := by
  refine (run0_zz10 N x).trans ?_
  rw [(funext fun l0 => (funext fun n1 => (funext fun k5 => vbih N l0 n1 k5)))]
  rfl
theorem fn_zz10 : FnOk Try.prog 120 := ⟨_, Try.func120, by kernel_rfl, by kernel_rfl⟩
theorem good_zz10 : Gx.Good Try.prog 120 S_zz10 := vaa Try.func120 (of_decide_eq_true (by kernel_rfl)) fun x r h => ⟨A_zz10, big, vac tabOk, vab (show SigsOk Try.prog [] from trivial), (run_zz10 big x).trans h⟩
end Go.Proofs.Ytcdlbboeflehdaa
