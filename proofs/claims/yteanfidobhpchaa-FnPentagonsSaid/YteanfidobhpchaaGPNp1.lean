import Derived.Test.YteanfidobhpchaaGxGen
import Derived.Test.YteanfidobhpchaaRows
import Derived.Test.YteanfidobhpchaaChecked
import Derived.KernelRfl
set_option maxRecDepth 100000
set_option linter.unusedVariables false
namespace Go.Proofs.Yteanfidobhpchaa
open Go Go.Gx Go.Proofs
abbrev I := Ty.int .i64
abbrev Q0 : Ty := (.pair (.sl (.sl I)) .unit)
abbrev P1 : Fl := (.o (.p (.o (.o .i)) .i))
abbrev Q2 : Ty := (.opt (.pair (.sl (.sl .bool)) (.pair (.sl (.sl I)) Q0)))
abbrev Q3 : Ty := (.ptr (.pair (.sl (.int .u8)) (.pair I (.pair (.int .u64) .unit))))
abbrev Q4 : Ty := (.ptr Q0)
abbrev P5 : Fl := (.o .i)
abbrev Q6 : Ty := (.sl (.sl .bool))
abbrev Q7 : Ty := (.sl I)
abbrev Q8 : Ty := (.pair I (.pair I .unit))
abbrev Q9 : Ty := (.tup (.pair Q7 (.pair .bool .unit)))
abbrev P10 : Fl := (.o P5)
abbrev Q11 : Ty := (.pair Q0 .unit)
abbrev Q12 : Ty := (.pair Q7 .unit)
abbrev Q13 : Ty := (.pair (.ptr Q6) (.pair (.ptr I) (.pair (.ptr I) .unit)))
abbrev Q14 : Ty := (.sl Q8)
abbrev Q15 : Ty := (.sl (.int .u8))
abbrev W0 := V.val I .i
abbrev W1 := V.val Q4 P1
abbrev W2 := V.val Q4 P5
abbrev W3 := V.val Q7 P5
abbrev W4 := V.val Q7 .i
abbrev W5 := V.val Q6 P10
abbrev W6 := V.val Q2 .i
abbrev Y1 := (Option ((List (List Bool)) × ((List (List Int)) × ((List (List Int)) × Unit))))
abbrev Y2 := ((List (List Int)) × Unit)
abbrev Y7 := (Int × ((List (Int × ((List Int) × Unit))) × Unit))
abbrev Y6 := (Int × ((List Int) × Unit))
abbrev Y3 := (List (List Int))
abbrev Y4 := (List Int)
abbrev Y5 := (List (List Bool))
abbrev Z0 := Option ((Y4 × (Bool × Unit)) × Unit)
abbrev Z1 := Option (Bool × Unit)
abbrev Z2 := (Int × (Int × Unit))
abbrev Z3 := Option (Y2 × Unit)
abbrev Z4 := Option ((Option Y4) × Unit)
abbrev Z5 := Option (Y2 × ((Y4 × Z2) × Unit))
abbrev Z6 := Option ((Y2 × (Bool × Unit)) × Unit)
abbrev Z7 := Option (Int × Unit)
abbrev Z8 := Option (Y4 × Unit)
abbrev Z9 := Option ((Y5 × (Bool × Unit)) × Unit)
abbrev Z10 := Option ((Y3 × (Bool × Unit)) × Unit)
abbrev Z11 := Option ((Y2 × (Y2 × Unit)) × Unit)
abbrev Z12 := Option ((Option Y4) × (Unit × Unit))
abbrev Z13 := Option (Y5 × Unit)
abbrev Z14 := (List Z2)
abbrev Z15 := (Y4 × Z2)
abbrev Z16 := Option (Z14 × Unit)
abbrev Z17 := Option (Y4 × (Z15 × Unit))
abbrev Z18 := (Y2 × (Y2 × (Y4 × Unit)))
abbrev Z19 := (Y1 × (Y1 × (Y4 × Unit)))
def tab : Tab := { es := [(22, (.int .u8), .i), (24, Q7, P5), (28, I, .i), (37, Q8, .i), (53, (.sl .bool), P5), (54, (.sl .bool), P5), (66, .bool, .i)], ts := [(3, I, .i), (4, .bool, .i), (5, (.int .u8), .i), (22, Q15, P5), (24, (.sl Q7), P10), (26, Q0, (.p P10 .i)), (28, Q7, P5), (36, Q8, .i), (37, Q14, P5), (51, Q2, .i), (53, Q6, P10), (54, Q6, P10), (56, (.pair Q6 (.pair (.sl Q7) Q0)), (.p P10 (.p P10 (.p P10 .i)))), (66, (.sl .bool), P5), (73, Q3, (.o (.p P5 .i))), (74, (.int .u64), .i), (76, (.pair Q15 (.pair I (.pair (.int .u64) .unit))), (.p P5 .i))], fs := [(26, [((.sl Q7), P10)]), (56, [(Q6, P10), ((.sl Q7), P10), ((.sl Q7), P10)]), (76, [(Q15, P5), (I, .i), ((.int .u64), .i)])], ars := [(36, I, .i, 2)] }
theorem tabOk : tab.chk Try.prog = true := by kernel_rfl
def vbqb (code_0 : Y4) : Z1 :=
  some (decide ((65536 : Int) < (code_0.length : Int)), (()))
def zz0 (code_0 : Y4) : Z1 := vbqb code_0
def S_zz0 : Sig := { a := (.pair Q15 .unit), md := [0], mf := [], m := .unit, r := .bool, rf := .i, f := fun x => zz0 x.1 }
def A_zz0 : Cfg := mkCfg tab [] []
theorem run_zz0 (N : Nat) (x : (S_zz0).a.den) : runF (A_zz0) N Try.f5 S_zz0 x = zz0 x.1 := by kernel_rfl
theorem fn_zz0 : FnOk Try.prog 5 := ⟨_, Try.func5, by kernel_rfl, by kernel_rfl⟩
theorem good_zz0 : Gx.Good Try.prog 5 S_zz0 := vaa Try.func5 (of_decide_eq_true (by kernel_rfl)) fun x r h => ⟨A_zz0, big, vad tabOk, vab (show SigsOk Try.prog [] from trivial), (run_zz0 big x).trans h⟩
def vbpy (c_0 : Z15) : Option (Int × (Z15 × Unit)) :=
  cond (decide (c_0.2.1 < (c_0.1.length : Int)))
  ((atI c_0.1 c_0.2.1).bind fun xq1 =>
  cond (decide (((((c_0.1, (IntKind.i64.wrap (c_0.2.1 + (1 : Int)), c_0.2.2)).1, (((c_0.1, (IntKind.i64.wrap (c_0.2.1 + (1 : Int)), c_0.2.2)).2).1, (IntKind.u64.wrap ((IntKind.u64.wrap ((IntKind.u64.wrap (((((c_0.1, (IntKind.i64.wrap (c_0.2.1 + (1 : Int)), c_0.2.2)).2).2).1) * (6364136223846793005 : Int))) + (IntKind.u64.wrap (IntKind.i64.wrap xq1)))) + (550289 : Int)), (((c_0.1, (IntKind.i64.wrap (c_0.2.1 + (1 : Int)), c_0.2.2)).2).2).2))).2).1) ≤ ((((c_0.1, (IntKind.i64.wrap (c_0.2.1 + (1 : Int)), c_0.2.2)).1, (((c_0.1, (IntKind.i64.wrap (c_0.2.1 + (1 : Int)), c_0.2.2)).2).1, (IntKind.u64.wrap ((IntKind.u64.wrap ((IntKind.u64.wrap (((((c_0.1, (IntKind.i64.wrap (c_0.2.1 + (1 : Int)), c_0.2.2)).2).2).1) * (6364136223846793005 : Int))) + (IntKind.u64.wrap (IntKind.i64.wrap xq1)))) + (550289 : Int)), (((c_0.1, (IntKind.i64.wrap (c_0.2.1 + (1 : Int)), c_0.2.2)).2).2).2))).1).length : Int)))
  (some (IntKind.i64.wrap xq1, (((c_0.1, (IntKind.i64.wrap (c_0.2.1 + (1 : Int)), c_0.2.2)).1, (((c_0.1, (IntKind.i64.wrap (c_0.2.1 + (1 : Int)), c_0.2.2)).2).1, (IntKind.u64.wrap ((IntKind.u64.wrap ((IntKind.u64.wrap (((((c_0.1, (IntKind.i64.wrap (c_0.2.1 + (1 : Int)), c_0.2.2)).2).2).1) * (6364136223846793005 : Int))) + (IntKind.u64.wrap (IntKind.i64.wrap xq1)))) + (550289 : Int)), (((c_0.1, (IntKind.i64.wrap (c_0.2.1 + (1 : Int)), c_0.2.2)).2).2).2))), ())))
  ((shrI IntKind.u64 (((((c_0.1, (IntKind.i64.wrap (c_0.2.1 + (1 : Int)), c_0.2.2)).1, (((c_0.1, (IntKind.i64.wrap (c_0.2.1 + (1 : Int)), c_0.2.2)).2).1, (IntKind.u64.wrap ((IntKind.u64.wrap ((IntKind.u64.wrap (((((c_0.1, (IntKind.i64.wrap (c_0.2.1 + (1 : Int)), c_0.2.2)).2).2).1) * (6364136223846793005 : Int))) + (IntKind.u64.wrap (IntKind.i64.wrap xq1)))) + (550289 : Int)), (((c_0.1, (IntKind.i64.wrap (c_0.2.1 + (1 : Int)), c_0.2.2)).2).2).2))).2).2).1) (40 : Int)).bind fun xq2 =>
  some (IntKind.i64.wrap (bitI .and IntKind.u64 xq2 (255 : Int)), (((c_0.1, (IntKind.i64.wrap (c_0.2.1 + (1 : Int)), c_0.2.2)).1, (((c_0.1, (IntKind.i64.wrap (c_0.2.1 + (1 : Int)), c_0.2.2)).2).1, (IntKind.u64.wrap ((IntKind.u64.wrap ((IntKind.u64.wrap (((((c_0.1, (IntKind.i64.wrap (c_0.2.1 + (1 : Int)), c_0.2.2)).2).2).1) * (6364136223846793005 : Int))) + (IntKind.u64.wrap (IntKind.i64.wrap xq1)))) + (550289 : Int)), (((c_0.1, (IntKind.i64.wrap (c_0.2.1 + (1 : Int)), c_0.2.2)).2).2).2))), ()))))
  (cond (decide (((((c_0.1, (IntKind.i64.wrap (c_0.2.1 + (1 : Int)), c_0.2.2)).1, (((c_0.1, (IntKind.i64.wrap (c_0.2.1 + (1 : Int)), c_0.2.2)).2).1, (IntKind.u64.wrap ((IntKind.u64.wrap ((IntKind.u64.wrap (((((c_0.1, (IntKind.i64.wrap (c_0.2.1 + (1 : Int)), c_0.2.2)).2).2).1) * (6364136223846793005 : Int))) + (IntKind.u64.wrap (0 : Int)))) + (550289 : Int)), (((c_0.1, (IntKind.i64.wrap (c_0.2.1 + (1 : Int)), c_0.2.2)).2).2).2))).2).1) ≤ ((((c_0.1, (IntKind.i64.wrap (c_0.2.1 + (1 : Int)), c_0.2.2)).1, (((c_0.1, (IntKind.i64.wrap (c_0.2.1 + (1 : Int)), c_0.2.2)).2).1, (IntKind.u64.wrap ((IntKind.u64.wrap ((IntKind.u64.wrap (((((c_0.1, (IntKind.i64.wrap (c_0.2.1 + (1 : Int)), c_0.2.2)).2).2).1) * (6364136223846793005 : Int))) + (IntKind.u64.wrap (0 : Int)))) + (550289 : Int)), (((c_0.1, (IntKind.i64.wrap (c_0.2.1 + (1 : Int)), c_0.2.2)).2).2).2))).1).length : Int)))
  (some ((0 : Int), (((c_0.1, (IntKind.i64.wrap (c_0.2.1 + (1 : Int)), c_0.2.2)).1, (((c_0.1, (IntKind.i64.wrap (c_0.2.1 + (1 : Int)), c_0.2.2)).2).1, (IntKind.u64.wrap ((IntKind.u64.wrap ((IntKind.u64.wrap (((((c_0.1, (IntKind.i64.wrap (c_0.2.1 + (1 : Int)), c_0.2.2)).2).2).1) * (6364136223846793005 : Int))) + (IntKind.u64.wrap (0 : Int)))) + (550289 : Int)), (((c_0.1, (IntKind.i64.wrap (c_0.2.1 + (1 : Int)), c_0.2.2)).2).2).2))), ())))
  ((shrI IntKind.u64 (((((c_0.1, (IntKind.i64.wrap (c_0.2.1 + (1 : Int)), c_0.2.2)).1, (((c_0.1, (IntKind.i64.wrap (c_0.2.1 + (1 : Int)), c_0.2.2)).2).1, (IntKind.u64.wrap ((IntKind.u64.wrap ((IntKind.u64.wrap (((((c_0.1, (IntKind.i64.wrap (c_0.2.1 + (1 : Int)), c_0.2.2)).2).2).1) * (6364136223846793005 : Int))) + (IntKind.u64.wrap (0 : Int)))) + (550289 : Int)), (((c_0.1, (IntKind.i64.wrap (c_0.2.1 + (1 : Int)), c_0.2.2)).2).2).2))).2).2).1) (40 : Int)).bind fun xq3 =>
  some (IntKind.i64.wrap (bitI .and IntKind.u64 xq3 (255 : Int)), (((c_0.1, (IntKind.i64.wrap (c_0.2.1 + (1 : Int)), c_0.2.2)).1, (((c_0.1, (IntKind.i64.wrap (c_0.2.1 + (1 : Int)), c_0.2.2)).2).1, (IntKind.u64.wrap ((IntKind.u64.wrap ((IntKind.u64.wrap (((((c_0.1, (IntKind.i64.wrap (c_0.2.1 + (1 : Int)), c_0.2.2)).2).2).1) * (6364136223846793005 : Int))) + (IntKind.u64.wrap (0 : Int)))) + (550289 : Int)), (((c_0.1, (IntKind.i64.wrap (c_0.2.1 + (1 : Int)), c_0.2.2)).2).2).2))), ()))))
def zz1 (c_0 : Z15) : Option (Int × (Z15 × Unit)) := vbpy c_0
def S_zz1 : Sig := { a := (.pair Q3 .unit), md := [1], mf := [P5], m := (.pair Q3 .unit), r := I, rf := .i, f := fun x => zz1 x.1 }
def A_zz1 : Cfg := mkCfg tab [] []
theorem run_zz1 (N : Nat) (x : (S_zz1).a.den) : runF (A_zz1) N Try.f100 S_zz1 x = zz1 x.1 := by kernel_rfl
theorem fn_zz1 : FnOk Try.prog 100 := ⟨_, Try.func100, by kernel_rfl, by kernel_rfl⟩
theorem good_zz1 : Gx.Good Try.prog 100 S_zz1 := vaa Try.func100 (of_decide_eq_true (by kernel_rfl)) fun x r h => ⟨A_zz1, big, vad tabOk, vab (show SigsOk Try.prog [] from trivial), (run_zz1 big x).trans h⟩
def vbpw (c_0 : Z15) (n_1 : Int) : Option (Int × (Z15 × Unit)) :=
  cond (decide (n_1 ≤ (1 : Int)))
  (some ((0 : Int), (c_0, ())))
  ((zz1 c_0).bind fun rq1 =>
  cond (decide ((200 : Int) < n_1))
  ((zz1 rq1.2.1).bind fun rq2 =>
  (remI (IntKind.i64.wrap ((IntKind.i64.wrap (rq1.1 * (256 : Int))) + rq2.1)) n_1).bind fun xq3 =>
  some (xq3, (rq2.2.1, ())))
  ((remI rq1.1 n_1).bind fun xq4 =>
  some (xq4, (rq1.2.1, ()))))
def zz2 (c_0 : Z15) (n_1 : Int) : Option (Int × (Z15 × Unit)) := vbpw c_0 n_1
def S_zz2 : Sig := { a := (.pair Q3 (.pair I .unit)), md := [1, 0], mf := [P5], m := (.pair Q3 .unit), r := I, rf := .i, f := fun x => zz2 x.1 x.2.1 }
def A_zz2 : Cfg := mkCfg tab [(100, S_zz1)] []
theorem run_zz2 (N : Nat) (x : (S_zz2).a.den) : runF (A_zz2) N Try.f63 S_zz2 x = zz2 x.1 x.2.1 := by kernel_rfl
theorem fn_zz2 : FnOk Try.prog 63 := ⟨_, Try.func63, by kernel_rfl, by kernel_rfl⟩
theorem good_zz2 : Gx.Good Try.prog 63 S_zz2 := vaa Try.func63 (of_decide_eq_true (by kernel_rfl)) fun x r h => ⟨A_zz2, big, vad tabOk, vab (show SigsOk Try.prog [(100, S_zz1)] from ⟨⟨fn_zz1, good_zz1⟩, trivial⟩), (run_zz2 big x).trans h⟩
def vbpu (c_0 : Z15) (n_1 : Int) : Option (Bool × (Z15 × Unit)) :=
  (zz2 c_0 n_1).bind fun rq1 =>
  some (decide (rq1.1 = (0 : Int)), (rq1.2.1, ()))
def zz3 (c_0 : Z15) (n_1 : Int) : Option (Bool × (Z15 × Unit)) := vbpu c_0 n_1
def S_zz3 : Sig := { a := (.pair Q3 (.pair I .unit)), md := [1, 0], mf := [P5], m := (.pair Q3 .unit), r := .bool, rf := .i, f := fun x => zz3 x.1 x.2.1 }
def A_zz3 : Cfg := mkCfg tab [(63, S_zz2)] []
theorem run_zz3 (N : Nat) (x : (S_zz3).a.den) : runF (A_zz3) N Try.f94 S_zz3 x = zz3 x.1 x.2.1 := by kernel_rfl
theorem fn_zz3 : FnOk Try.prog 94 := ⟨_, Try.func94, by kernel_rfl, by kernel_rfl⟩
theorem good_zz3 : Gx.Good Try.prog 94 S_zz3 := vaa Try.func94 (of_decide_eq_true (by kernel_rfl)) fun x r h => ⟨A_zz3, big, vad tabOk, vab (show SigsOk Try.prog [(63, S_zz2)] from ⟨⟨fn_zz2, good_zz2⟩, trivial⟩), (run_zz3 big x).trans h⟩
def vbpx (c_0 : Z15) (list_1 : Y4) : Option (Int × (Z15 × Unit)) :=
  (zz2 c_0 (list_1.length : Int)).bind fun rq1 =>
  (atI list_1 rq1.1).bind fun xq2 =>
  some (xq2, (rq1.2.1, ()))
def zz4 (c_0 : Z15) (list_1 : Y4) : Option (Int × (Z15 × Unit)) := vbpx c_0 list_1
def S_zz4 : Sig := { a := (.pair Q3 Q12), md := [1, 0], mf := [P5], m := (.pair Q3 .unit), r := I, rf := .i, f := fun x => zz4 x.1 x.2.1 }
def A_zz4 : Cfg := mkCfg tab [(63, S_zz2)] []
theorem run_zz4 (N : Nat) (x : (S_zz4).a.den) : runF (A_zz4) N Try.f118 S_zz4 x = zz4 x.1 x.2.1 := by kernel_rfl
theorem fn_zz4 : FnOk Try.prog 118 := ⟨_, Try.func118, by kernel_rfl, by kernel_rfl⟩
theorem good_zz4 : Gx.Good Try.prog 118 S_zz4 := vaa Try.func118 (of_decide_eq_true (by kernel_rfl)) fun x r h => ⟨A_zz4, big, vad tabOk, vab (show SigsOk Try.prog [(63, S_zz2)] from ⟨⟨fn_zz2, good_zz2⟩, trivial⟩), (run_zz4 big x).trans h⟩
def vsh (rec : Z15 → Int → Y4 → Int → Z17) (k : Z15 → Int → Y4 → Z17) (c0 : Z15) (n1 : Int) (out5 : Y4) (i6 : Int) : Z17 :=
  cond (decide (i6 < n1))
  ((zz2 c0 (IntKind.i64.wrap ((out5.length : Int) + (1 : Int)))).bind fun rq1 =>
  (slI out5 0 rq1.1).bind fun xq2 =>
  (appI [] xq2).bind fun xq3 =>
  (appI xq3 [i6]).bind fun xq4 =>
  (slI out5 rq1.1 out5.length).bind fun xq5 =>
  (appI xq4 xq5).bind fun xq6 =>
  rec rq1.2.1 n1 xq6 (IntKind.i64.wrap (i6 + (1 : Int))))
  (k c0 n1 out5)
def vro (c0 : Z15) (n1 : Int) (out5 : Y4) : Z17 :=
  (zz2 c0 (24 : Int)).bind fun rq7 =>
  cond (decide (rq7.1 = (0 : Int)))
  ((appI out5 [n1]).bind fun xq8 =>
  some (xq8, (rq7.2.1, ())))
  (cond (decide (rq7.1 = (1 : Int)))
  (cond (decide ((0 : Int) < n1))
  ((zz2 rq7.2.1 n1).bind fun rq9 =>
  (zz4 rq9.2.1 [(0 : Int), (-1 : Int), n1]).bind fun rq10 =>
  (atI out5 rq9.1).bind fun _ =>
  (out5[rq9.1.toNat]?).bind fun xq11 =>
  some (out5.set rq9.1.toNat rq10.1, (rq10.2.1, ())))
  (some (out5, (rq7.2.1, ()))))
  (some (out5, (rq7.2.1, ()))))
def vbgb (L3 : Z15 → Int → Y4 → Int → Z17) (c_0 : Z15) (n_1 : Int) : Z17 :=
  L3 c_0 n_1 [] (0 : Int)
def vaij (N : Nat) (k : Z15 → Int → Y4 → Z17) : Nat → Z15 → Int → Y4 → Int → Z17
  | 0, _, _, _, _ => none
  | m + 1, c0, n1, out5, i6 => vsh (vaij N k m) k c0 n1 out5 i6
def vavo (N : Nat) (c0 : Z15) (n1 : Int) (out5 : Y4) (i6 : Int) : Z17 := vaij N (vro) N c0 n1 out5 i6
def zz5 (N : Nat) (c_0 : Z15) (n_1 : Int) : Z17 := vbgb (vavo N) c_0 n_1
def S_zz5 : Sig := { a := (.pair Q3 (.pair I .unit)), md := [1, 0], mf := [P5], m := (.pair Q3 .unit), r := Q7, rf := P5, f := fun x => zz5 big x.1 x.2.1 }
def A_zz5 : Cfg := mkCfg tab [(63, S_zz2), (118, S_zz4)] [(6, [.as Q3 P5, .as I .i, .drop, .drop, .drop, .as Q7 P5, .as I .i]), (13, [.as Q3 P5, .as I .i, .drop, .drop, .drop, .as Q7 .i, .as I .i, .as I .i]), (15, [.as Q3 P5, .as I .i, .drop, .drop, .drop, .as Q7 P5])]
noncomputable def vpj (N n : Nat) (K : Ex → St → Z17) (c0 : Z15) (n1 : Int) (out5 : Y4) (i6 : Int) : Z17 := iter ((A_zz5).shape 6) (run (A_zz5) N (codeAt Try.f96 [1, 1, 0, 1, 0, 0])) n ([.val Q3 P5 c0, W0 n1, .u, .u, .u, W3 out5, W0 i6] ++ List.replicate 46 .u) K
noncomputable abbrev vbgh : Ex → St → Z17 := finish (A_zz5) S_zz5 Try.f96.results.toList
noncomputable abbrev vauz (kX : St → Z17) (c0 : Z15) (n1 : Int) (out5 : Y4) : Z17 := kX ([.val Q3 P5 c0, W0 n1, .u, .u, .u, W3 out5] ++ List.replicate 47 .u)
noncomputable abbrev vals (kX : St → Z17) (kO : Nat → St → Z17) : Ex → St → Z17 := exK vbgh 0 ((A_zz5).shape 15) kX kO
theorem varv (N kX kO) : ∀ n, vpj N n (vals kX kO) = vaij N (vauz kX) n
 | 0 => rfl
 | m + 1 => (show vpj N (m + 1) (vals kX kO) = vsh (vpj N m (vals kX kO)) (vauz kX) by kernel_rfl).trans (by rw [varv N kX kO m]; funext _ _ _ _; rfl)
noncomputable abbrev vakx (N : Nat) : Ex → St → Z17 := (blockK 0 (sqK (A_zz5) N 15 500007 (codeAt Try.f96 [1, 1, 1]) vbgh))
noncomputable abbrev vbji (N : Nat) (st' : St) : Z17 := run (A_zz5) N (codeAt Try.f96 [1, 1, 1]) st' vbgh
theorem vbss (N) : vpj N N (vakx N) = vavo N := by
 rw [show vpj N N (vakx N) = vpj N N (vals (vbji N) fun j => (vakx N) (.exit j)) from (by funext _ _ _ _; exact vac (fun _ => by kernel_rfl) fun _ => by kernel_rfl), varv, show vauz (vbji N) = vro by kernel_rfl]; rfl
theorem run0_zz5 (N : Nat) (x : (S_zz5).a.den) : runF (A_zz5) N Try.f96 S_zz5 x = (vbgb (vpj N N (vakx N)) x.1 x.2.1) := by kernel_rfl
theorem run_zz5 (N : Nat) (x : (S_zz5).a.den) : runF (A_zz5) N Try.f96 S_zz5 x = zz5 N x.1 x.2.1 := by
  refine (run0_zz5 N x).trans ?_
  rw [vbss N]
  rfl
theorem fn_zz5 : FnOk Try.prog 96 := ⟨_, Try.func96, by kernel_rfl, by kernel_rfl⟩
theorem good_zz5 : Gx.Good Try.prog 96 S_zz5 := vaa Try.func96 (of_decide_eq_true (by kernel_rfl)) fun x r h => ⟨A_zz5, big, vad tabOk, vab (show SigsOk Try.prog [(63, S_zz2), (118, S_zz4)] from ⟨⟨fn_zz2, good_zz2⟩, ⟨fn_zz4, good_zz4⟩, trivial⟩), (run_zz5 big x).trans h⟩
def vbqc (x_0 a_1 b_2 : Int) : Z1 :=
  cond (decide (a_1 ≤ x_0))
  (some (decide (x_0 ≤ b_2), (())))
  (some (false, (())))
def zz6 (x_0 a_1 b_2 : Int) : Z1 := vbqc x_0 a_1 b_2
def S_zz6 : Sig := { a := (.pair I Q8), md := [0, 0, 0], mf := [], m := .unit, r := .bool, rf := .i, f := fun x => zz6 x.1 x.2.1 x.2.2.1 }
def A_zz6 : Cfg := mkCfg tab [] []
theorem run_zz6 (N : Nat) (x : (S_zz6).a.den) : runF (A_zz6) N Try.f121 S_zz6 x = zz6 x.1 x.2.1 x.2.2.1 := by kernel_rfl
theorem fn_zz6 : FnOk Try.prog 121 := ⟨_, Try.func121, by kernel_rfl, by kernel_rfl⟩
theorem good_zz6 : Gx.Good Try.prog 121 S_zz6 := vaa Try.func121 (of_decide_eq_true (by kernel_rfl)) fun x r h => ⟨A_zz6, big, vad tabOk, vab (show SigsOk Try.prog [] from trivial), (run_zz6 big x).trans h⟩
def vrp (rec : Int → Y4 → Int → Z1) (k : Z1) (n0 : Int) (list1 : Y4) (i5 : Int) : Z1 :=
  cond (decide (i5 < (list1.length : Int)))
  ((atI list1 i5).bind fun xq1 =>
  (zz6 xq1 (0 : Int) (IntKind.i64.wrap (n0 - (1 : Int)))).bind fun rq2 =>
  cond (!rq2.1)
  (some (false, (())))
  (rec n0 list1 (IntKind.i64.wrap (i5 + (1 : Int)))))
  (k)
def vsj : Z1 :=
  some (true, (()))
def vbgn (L2 : Int → Y4 → Int → Z1) (n_0 : Int) (list_1 : Y4) : Z1 :=
  L2 n_0 list_1 (0 : Int)
def vamc (N : Nat) (k : Z1) : Nat → Int → Y4 → Int → Z1
  | 0, _, _, _ => none
  | m + 1, n0, list1, i5 => vrp (vamc N k m) k n0 list1 i5
def vauv (N : Nat) (n0 : Int) (list1 : Y4) (i5 : Int) : Z1 := vamc N (vsj) N n0 list1 i5
def zz7 (N : Nat) (n_0 : Int) (list_1 : Y4) : Z1 := vbgn (vauv N) n_0 list_1
def S_zz7 : Sig := { a := (.pair I Q12), md := [0, 0], mf := [], m := .unit, r := .bool, rf := .i, f := fun x => zz7 big x.1 x.2.1 }
def A_zz7 : Cfg := mkCfg tab [(121, S_zz6)] [(4, [.as I .i, .as Q7 .i, .drop, .drop, .drop, .as I .i]), (13, [])]
noncomputable def vqc (N n : Nat) (K : Ex → St → Z1) (n0 : Int) (list1 : Y4) (i5 : Int) : Z1 := iter ((A_zz7).shape 4) (run (A_zz7) N (codeAt Try.f119 [1, 0, 1, 0, 0])) n ([W0 n0, W4 list1, .u, .u, .u, W0 i5] ++ List.replicate 14 .u) K
noncomputable abbrev vbgg : Ex → St → Z1 := finish (A_zz7) S_zz7 Try.f119.results.toList
noncomputable abbrev vazh (kX : St → Z1) : Z1 := kX ([] ++ List.replicate 20 .u)
noncomputable abbrev vald (kX : St → Z1) (kO : Nat → St → Z1) : Ex → St → Z1 := exK vbgg 0 ((A_zz7).shape 13) kX kO
theorem varq (N kX kO) : ∀ n, vqc N n (vald kX kO) = vamc N (vazh kX) n
 | 0 => rfl
 | m + 1 => (show vqc N (m + 1) (vald kX kO) = vrp (vqc N m (vald kX kO)) (vazh kX) by kernel_rfl).trans (by rw [varq N kX kO m]; funext _ _ _; rfl)
noncomputable abbrev vake (N : Nat) : Ex → St → Z1 := (blockK 0 (sqK (A_zz7) N 13 500006 (codeAt Try.f119 [1, 1]) vbgg))
noncomputable abbrev vbhj (N : Nat) (st' : St) : Z1 := run (A_zz7) N (codeAt Try.f119 [1, 1]) st' vbgg
theorem vbsp (N) : vqc N N (vake N) = vauv N := by
 rw [show vqc N N (vake N) = vqc N N (vald (vbhj N) fun j => (vake N) (.exit j)) from (by funext _ _ _; exact vac (fun _ => by kernel_rfl) fun _ => by kernel_rfl), varq, show vazh (vbhj N) = vsj by kernel_rfl]; rfl
theorem run0_zz7 (N : Nat) (x : (S_zz7).a.den) : runF (A_zz7) N Try.f119 S_zz7 x = (vbgn (vqc N N (vake N)) x.1 x.2.1) := by kernel_rfl
theorem run_zz7 (N : Nat) (x : (S_zz7).a.den) : runF (A_zz7) N Try.f119 S_zz7 x = zz7 N x.1 x.2.1 := by
  refine (run0_zz7 N x).trans ?_
  rw [vbsp N]
  rfl
theorem fn_zz7 : FnOk Try.prog 119 := ⟨_, Try.func119, by kernel_rfl, by kernel_rfl⟩
theorem good_zz7 : Gx.Good Try.prog 119 S_zz7 := vaa Try.func119 (of_decide_eq_true (by kernel_rfl)) fun x r h => ⟨A_zz7, big, vad tabOk, vab (show SigsOk Try.prog [(121, S_zz6)] from ⟨⟨fn_zz6, good_zz6⟩, trivial⟩), (run_zz7 big x).trans h⟩
def vrd (rec : Y4 → Int → (List Bool) → Int → Z1) (k : Z1) (l0 : Y4) (n1 : Int) (seen5 : (List Bool)) (i6 : Int) : Z1 :=
  cond (decide (i6 < n1))
  ((atI l0 i6).bind fun xq4 =>
  (atI seen5 xq4).bind fun _ =>
  (seen5[xq4.toNat]?).bind fun xq5 =>
  cond xq5
  (some (false, (())))
  ((atI l0 i6).bind fun xq6 =>
  (atI seen5 xq6).bind fun _ =>
  (seen5[xq6.toNat]?).bind fun xq7 =>
  rec l0 n1 (seen5.set xq6.toNat true) (IntKind.i64.wrap (i6 + (1 : Int)))))
  (k)
def vrr : Z1 :=
  some (true, (()))
def vbgo (L5 : Y4 → Int → (List Bool) → Int → Z1) (l_0 : Y4) (n_1 : Int) : Z1 :=
  cond (decide ((l_0.length : Int) ≠ n_1))
  (some (false, (())))
  ((zz7 big n_1 l_0).bind fun rq1 =>
  cond (!rq1.1)
  (some (false, (())))
  ((mkI false n_1).bind fun xq2 => (mkI false n_1).bind fun xq3 => cond (decide (n_1 ≤ n_1))
  (L5 l_0 n_1 xq3 (0 : Int))
  none))
def vaml (N : Nat) (k : Z1) : Nat → Y4 → Int → (List Bool) → Int → Z1
  | 0, _, _, _, _ => none
  | m + 1, l0, n1, seen5, i6 => vrd (vaml N k m) k l0 n1 seen5 i6
def vazv (N : Nat) (l0 : Y4) (n1 : Int) (seen5 : (List Bool)) (i6 : Int) : Z1 := vaml N (vrr) N l0 n1 seen5 i6
def zz8 (N : Nat) (l_0 : Y4) (n_1 : Int) : Z1 := vbgo (vazv N) l_0 n_1
def S_zz8 : Sig := { a := (.pair Q7 (.pair I .unit)), md := [0, 0], mf := [], m := .unit, r := .bool, rf := .i, f := fun x => zz8 big x.1 x.2.1 }
def A_zz8 : Cfg := mkCfg tab [(119, S_zz7)] [(10, [.as Q7 .i, .as I .i, .drop, .drop, .drop, .as (.sl .bool) P5, .as I .i]), (21, [])]
noncomputable def vpp (N n : Nat) (K : Ex → St → Z1) (l0 : Y4) (n1 : Int) (seen5 : (List Bool)) (i6 : Int) : Z1 := iter ((A_zz8).shape 10) (run (A_zz8) N (codeAt Try.f97 [1, 1, 1, 0, 1, 0, 0])) n ([W4 l0, W0 n1, .u, .u, .u, .val (.sl .bool) P5 seen5, W0 i6] ++ List.replicate 30 .u) K
noncomputable abbrev vbhc : Ex → St → Z1 := finish (A_zz8) S_zz8 Try.f97.results.toList
noncomputable abbrev vatr (kX : St → Z1) : Z1 := kX ([] ++ List.replicate 37 .u)
noncomputable abbrev vame (kX : St → Z1) (kO : Nat → St → Z1) : Ex → St → Z1 := exK vbhc 0 ((A_zz8).shape 21) kX kO
theorem varg (N kX kO) : ∀ n, vpp N n (vame kX kO) = vaml N (vatr kX) n
 | 0 => rfl
 | m + 1 => (show vpp N (m + 1) (vame kX kO) = vrd (vpp N m (vame kX kO)) (vatr kX) by kernel_rfl).trans (by rw [varg N kX kO m]; funext _ _ _ _; rfl)
noncomputable abbrev vakz (N : Nat) : Ex → St → Z1 := (blockK 0 (sqK (A_zz8) N 21 500010 (codeAt Try.f97 [1, 1, 1, 1]) vbhc))
noncomputable abbrev vbkn (N : Nat) (st' : St) : Z1 := run (A_zz8) N (codeAt Try.f97 [1, 1, 1, 1]) st' vbhc
theorem vbrd (N) : vpp N N (vakz N) = vazv N := by
 rw [show vpp N N (vakz N) = vpp N N (vame (vbkn N) fun j => (vakz N) (.exit j)) from (by funext _ _ _ _; exact vac (fun _ => by kernel_rfl) fun _ => by kernel_rfl), varg, show vatr (vbkn N) = vrr by kernel_rfl]; rfl
theorem run0_zz8 (N : Nat) (x : (S_zz8).a.den) : runF (A_zz8) N Try.f97 S_zz8 x = (vbgo (vpp N N (vakz N)) x.1 x.2.1) := by kernel_rfl
theorem run_zz8 (N : Nat) (x : (S_zz8).a.den) : runF (A_zz8) N Try.f97 S_zz8 x = zz8 N x.1 x.2.1 := by
  refine (run0_zz8 N x).trans ?_
  rw [vbrd N]
  rfl
theorem fn_zz8 : FnOk Try.prog 97 := ⟨_, Try.func97, by kernel_rfl, by kernel_rfl⟩
theorem good_zz8 : Gx.Good Try.prog 97 S_zz8 := vaa Try.func97 (of_decide_eq_true (by kernel_rfl)) fun x r h => ⟨A_zz8, big, vad tabOk, vab (show SigsOk Try.prog [(119, S_zz7)] from ⟨⟨fn_zz7, good_zz7⟩, trivial⟩), (run_zz8 big x).trans h⟩
def vmz (rec : Int → Y2 → Y5 → Y2 → Int → Y4 → Int → Z3) (k : Int → Y2 → Y5 → Y2 → Int → Y4 → Z3) (n0 : Int) (t4 : Y2) (leq5 : Y5) (p12 : Y2) (y13 : Int) (below14 : Y4) (x15 : Int) : Z3 :=
  cond (decide (x15 < n0))
  ((atI leq5 x15).bind fun _ =>
  (leq5[x15.toNat]?).bind fun xq33 =>
  (leq5[x15.toNat]?).bind fun xq34 =>
  (atI xq34 y13).bind fun _ =>
  (leq5[x15.toNat]?).bind fun xq35 =>
  (xq35[y13.toNat]?).bind fun xq36 =>
  cond xq36
  ((appI below14 [x15]).bind fun xq37 =>
  rec n0 t4 leq5 p12 y13 xq37 (IntKind.i64.wrap (x15 + (1 : Int))))
  (rec n0 t4 leq5 p12 y13 below14 (IntKind.i64.wrap (x15 + (1 : Int)))))
  (k n0 t4 leq5 p12 y13 below14)
def vnb (rec : Int → Y2 → Y5 → Y2 → Int → Z3) (n0 : Int) (t4 : Y2) (leq5 : Y5) (p12 : Y2) (y13 : Int) (below14 : Y4) : Z3 :=
  (appI p12.1 [below14]).bind fun xq38 =>
  rec n0 t4 leq5 (xq38, ((), p12.2).2) (IntKind.i64.wrap (y13 + (1 : Int)))
def vmx (rec : Int → Y2 → Y5 → Int → Int → Int → Z3) (k : Int → Y2 → Y5 → Int → Int → Z3) (n0 : Int) (t4 : Y2) (leq5 : Y5) (z9 x10 y11 : Int) : Z3 :=
  cond (decide (y11 < n0))
  ((atI leq5 x10).bind fun _ =>
  (leq5[x10.toNat]?).bind fun xq11 =>
  (atI leq5 x10).bind fun _ =>
  (leq5[x10.toNat]?).bind fun xq12 =>
  (leq5[x10.toNat]?).bind fun xq13 =>
  (atI xq13 y11).bind fun _ =>
  (leq5[x10.toNat]?).bind fun xq14 =>
  (xq14[y11.toNat]?).bind fun xq15 =>
  cond xq15
  ((leq5[x10.toNat]?).bind fun xq16 =>
  (atI xq16 y11).bind fun _ =>
  (leq5[x10.toNat]?).bind fun xq17 =>
  (xq17[y11.toNat]?).bind fun xq18 =>
  rec n0 t4 (leq5.set x10.toNat (xq17.set y11.toNat true)) z9 x10 (IntKind.i64.wrap (y11 + (1 : Int))))
  ((atI leq5 x10).bind fun _ =>
  (leq5[x10.toNat]?).bind fun xq19 =>
  (leq5[x10.toNat]?).bind fun xq20 =>
  (atI xq20 z9).bind fun _ =>
  (leq5[x10.toNat]?).bind fun xq21 =>
  (xq21[z9.toNat]?).bind fun xq22 =>
  cond xq22
  ((atI leq5 z9).bind fun _ =>
  (leq5[z9.toNat]?).bind fun xq23 =>
  (leq5[z9.toNat]?).bind fun xq24 =>
  (atI xq24 y11).bind fun _ =>
  (leq5[z9.toNat]?).bind fun xq25 =>
  (xq25[y11.toNat]?).bind fun xq26 =>
  (leq5[x10.toNat]?).bind fun xq27 =>
  (atI xq27 y11).bind fun _ =>
  (leq5[x10.toNat]?).bind fun xq28 =>
  (xq28[y11.toNat]?).bind fun xq29 =>
  rec n0 t4 (leq5.set x10.toNat (xq28.set y11.toNat xq26)) z9 x10 (IntKind.i64.wrap (y11 + (1 : Int))))
  ((leq5[x10.toNat]?).bind fun xq30 =>
  (atI xq30 y11).bind fun _ =>
  (leq5[x10.toNat]?).bind fun xq31 =>
  (xq31[y11.toNat]?).bind fun xq32 =>
  rec n0 t4 (leq5.set x10.toNat (xq31.set y11.toNat false)) z9 x10 (IntKind.i64.wrap (y11 + (1 : Int))))))
  (k n0 t4 leq5 z9 x10)
def vnq (rec : Int → Y2 → Y5 → Int → Int → Z3) (n0 : Int) (t4 : Y2) (leq5 : Y5) (z9 x10 : Int) : Z3 :=
  rec n0 t4 leq5 z9 (IntKind.i64.wrap (x10 + (1 : Int)))
def vmt (L28 : Int → Y2 → Y5 → Y2 → Int → Y4 → Int → Z3) (k : Y2 → Y2 → Z3) (n0 : Int) (t4 : Y2) (leq5 : Y5) (p12 : Y2) (y13 : Int) : Z3 :=
  cond (decide (y13 < n0))
  (L28 n0 t4 leq5 p12 y13 [] (0 : Int))
  (k t4 p12)
def vgp (t4 p12 : Y2) : Z3 :=
  some (p12, (()))
def vnl (L19 : Int → Y2 → Y5 → Int → Int → Int → Z3) (k : Int → Y2 → Y5 → Int → Z3) (n0 : Int) (t4 : Y2) (leq5 : Y5) (z9 x10 : Int) : Z3 :=
  cond (decide (x10 < n0))
  (L19 n0 t4 leq5 z9 x10 (0 : Int))
  (k n0 t4 leq5 z9)
def vhm (rec : Int → Y2 → Y5 → Int → Z3) (n0 : Int) (t4 : Y2) (leq5 : Y5) (z9 : Int) : Z3 :=
  rec n0 t4 leq5 (IntKind.i64.wrap (z9 + (1 : Int)))
def vml (L16 : Int → Y2 → Y5 → Int → Int → Z3) (k : Int → Y2 → Y5 → Z3) (n0 : Int) (t4 : Y2) (leq5 : Y5) (z9 : Int) : Z3 :=
  cond (decide (z9 < n0))
  (L16 n0 t4 leq5 z9 (0 : Int))
  (k n0 t4 leq5)
def vgq (L24 : Int → Y2 → Y5 → Y2 → Int → Z3) (n0 : Int) (t4 : Y2) (leq5 : Y5) : Z3 :=
  L24 n0 t4 leq5 ([], ()) (0 : Int)
def vsw (rec : Int → Z14 → Y2 → Y5 → Int → Z3) (k : Int → Y2 → Y5 → Z3) (n0 : Int) (pairs1 : Z14) (t4 : Y2) (leq5 : Y5) (i8 : Int) : Z3 :=
  cond (decide (i8 < (pairs1.length : Int)))
  ((atI pairs1 i8).bind fun xq5 =>
  (atI leq5 xq5.1).bind fun _ =>
  (leq5[xq5.1.toNat]?).bind fun xq6 =>
  (atI pairs1 i8).bind fun xq7 =>
  (leq5[xq5.1.toNat]?).bind fun xq8 =>
  (atI xq8 xq7.2.1).bind fun _ =>
  (leq5[xq5.1.toNat]?).bind fun xq9 =>
  (xq9[xq7.2.1.toNat]?).bind fun xq10 =>
  rec n0 pairs1 t4 (leq5.set xq5.1.toNat (xq9.set xq7.2.1.toNat true)) (IntKind.i64.wrap (i8 + (1 : Int))))
  (k n0 t4 leq5)
def vsq (L13 : Int → Y2 → Y5 → Int → Z3) (n0 : Int) (t4 : Y2) (leq5 : Y5) : Z3 :=
  L13 n0 t4 leq5 (0 : Int)
def vsr (rec : Int → Z14 → Y2 → Y5 → Int → Z3) (k : Int → Z14 → Y2 → Y5 → Z3) (n0 : Int) (pairs1 : Z14) (t4 : Y2) (leq5 : Y5) (x6 : Int) : Z3 :=
  cond (decide (x6 < n0))
  ((mkI false n0).bind fun xq1 => (mkI false n0).bind fun xq2 => cond (decide (n0 ≤ n0))
  ((atI xq2 x6).bind fun _ =>
  (xq2[x6.toNat]?).bind fun xq3 =>
  (appI leq5 [xq2.set x6.toNat true]).bind fun xq4 =>
  rec n0 pairs1 t4 xq4 (IntKind.i64.wrap (x6 + (1 : Int))))
  none)
  (k n0 pairs1 t4 leq5)
def vrv (L9 : Int → Z14 → Y2 → Y5 → Int → Z3) (n0 : Int) (pairs1 : Z14) (t4 : Y2) (leq5 : Y5) : Z3 :=
  L9 n0 pairs1 t4 leq5 (0 : Int)
def vbgj (L3 : Int → Z14 → Y2 → Y5 → Int → Z3) (n_0 : Int) (pairs_1 : Z14) : Z3 :=
  L3 n_0 pairs_1 (([] : Y3), ()) [] (0 : Int)
def vade (N : Nat) (k : Int → Y2 → Y5 → Int → Int → Z3) : Nat → Int → Y2 → Y5 → Int → Int → Int → Z3
  | 0, _, _, _, _, _, _ => none
  | m + 1, n0, t4, leq5, z9, x10, y11 => vmx (vade N k m) k n0 t4 leq5 z9 x10 y11
def vse (N : Nat) (rec : Int → Y2 → Y5 → Int → Int → Z3) (k : Int → Y2 → Y5 → Int → Z3) (n0 : Int) (t4 : Y2) (leq5 : Y5) (z9 x10 y11 : Int) : Z3 := vade N (vnq rec) N n0 t4 leq5 z9 x10 y11
def vzr (N : Nat) (k : Int → Y2 → Y5 → Int → Z3) : Nat → Int → Y2 → Y5 → Int → Int → Z3
  | 0, _, _, _, _, _ => none
  | m + 1, n0, t4, leq5, z9, x10 => vnl (vse N (vzr N k m) k) k n0 t4 leq5 z9 x10
def vre (N : Nat) (rec : Int → Y2 → Y5 → Int → Z3) (k : Int → Y2 → Y5 → Z3) (n0 : Int) (t4 : Y2) (leq5 : Y5) (z9 x10 : Int) : Z3 := vzr N (vhm rec) N n0 t4 leq5 z9 x10
def vyt (N : Nat) (k : Int → Y2 → Y5 → Y2 → Int → Y4 → Z3) : Nat → Int → Y2 → Y5 → Y2 → Int → Y4 → Int → Z3
  | 0, _, _, _, _, _, _, _ => none
  | m + 1, n0, t4, leq5, p12, y13, below14, x15 => vmz (vyt N k m) k n0 t4 leq5 p12 y13 below14 x15
def vrq (N : Nat) (rec : Int → Y2 → Y5 → Y2 → Int → Z3) (k : Y2 → Y2 → Z3) (n0 : Int) (t4 : Y2) (leq5 : Y5) (p12 : Y2) (y13 : Int) (below14 : Y4) (x15 : Int) : Z3 := vyt N (vnb rec) N n0 t4 leq5 p12 y13 below14 x15
def vamn (N : Nat) (k : Int → Z14 → Y2 → Y5 → Z3) : Nat → Int → Z14 → Y2 → Y5 → Int → Z3
  | 0, _, _, _, _, _ => none
  | m + 1, n0, pairs1, t4, leq5, x6 => vsr (vamn N k m) k n0 pairs1 t4 leq5 x6
def vaiq (N : Nat) (k : Int → Y2 → Y5 → Z3) : Nat → Int → Z14 → Y2 → Y5 → Int → Z3
  | 0, _, _, _, _, _ => none
  | m + 1, n0, pairs1, t4, leq5, i8 => vsw (vaiq N k m) k n0 pairs1 t4 leq5 i8
def vacp (N : Nat) (k : Int → Y2 → Y5 → Z3) : Nat → Int → Y2 → Y5 → Int → Z3
  | 0, _, _, _, _ => none
  | m + 1, n0, t4, leq5, z9 => vml (vre N (vacp N k m) k) k n0 t4 leq5 z9
def vxp (N : Nat) (k : Y2 → Y2 → Z3) : Nat → Int → Y2 → Y5 → Y2 → Int → Z3
  | 0, _, _, _, _, _ => none
  | m + 1, n0, t4, leq5, p12, y13 => vmt (vrq N (vxp N k m) k) k n0 t4 leq5 p12 y13
def vdq (N : Nat) (n0 : Int) (t4 : Y2) (leq5 : Y5) (p12 : Y2) (y13 : Int) : Z3 := vxp N (vgp) N n0 t4 leq5 p12 y13
def vic (N : Nat) (n0 : Int) (t4 : Y2) (leq5 : Y5) (z9 : Int) : Z3 := vacp N (vgq (vdq N)) N n0 t4 leq5 z9
def vry (N : Nat) (n0 : Int) (pairs1 : Z14) (t4 : Y2) (leq5 : Y5) (i8 : Int) : Z3 := vaiq N (vsq (vic N)) N n0 pairs1 t4 leq5 i8
def vauq (N : Nat) (n0 : Int) (pairs1 : Z14) (t4 : Y2) (leq5 : Y5) (x6 : Int) : Z3 := vamn N (vrv (vry N)) N n0 pairs1 t4 leq5 x6
def zz9 (N : Nat) (n_0 : Int) (pairs_1 : Z14) : Z3 := vbgj (vauq N) n_0 pairs_1
def S_zz9 : Sig := { a := (.pair I (.pair Q14 .unit)), md := [0, 0], mf := [], m := .unit, r := Q0, rf := (.p P10 .i), f := fun x => zz9 big x.1 x.2.1 }
def A_zz9 : Cfg := mkCfg tab [] [(6, [.as I .i, .as Q14 .i, .drop, .drop, .as Q4 P1, .as Q6 P10, .as I .i]), (17, [.as I .i, .as Q14 .i, .drop, .drop, .as Q4 P1, .as Q6 P10]), (18, [.as I .i, .as Q14 .i, .drop, .drop, .as Q4 P1, .as Q6 P10, .drop, .drop, .as I .i]), (25, [.as I .i, .drop, .drop, .drop, .as Q4 P1, .as Q6 P10]), (26, [.as I .i, .drop, .drop, .drop, .as Q4 P1, .as Q6 P10, .drop, .drop, .drop, .as I .i]), (32, [.as I .i, .drop, .drop, .drop, .as Q4 P1, .as Q6 P10, .drop, .drop, .drop, .as I .i, .as I .i]), (45, [.as I .i, .drop, .drop, .drop, .as Q4 P1, .as Q6 P10]), (48, [.as I .i, .drop, .drop, .drop, .as Q4 P1, .as Q6 P10, .drop, .drop, .drop, .drop, .drop, .drop, .as Q4 P1, .as I .i]), (38, [.as I .i, .drop, .drop, .drop, .as Q4 P1, .as Q6 P10, .drop, .drop, .drop, .as I .i, .as I .i, .as I .i]), (29, [.as I .i, .drop, .drop, .drop, .as Q4 P1, .as Q6 P10, .drop, .drop, .drop, .as I .i]), (56, [.as I .i, .drop, .drop, .drop, .as Q4 P1, .as Q6 P10, .drop, .drop, .drop, .drop, .drop, .drop, .as Q4 P1, .as I .i, .as Q7 P5, .as I .i]), (67, [.drop, .drop, .drop, .drop, .as Q4 P1, .drop, .drop, .drop, .drop, .drop, .drop, .drop, .as Q4 P1]), (35, [.as I .i, .drop, .drop, .drop, .as Q4 P1, .as Q6 P10, .drop, .drop, .drop, .as I .i, .as I .i]), (65, [.as I .i, .drop, .drop, .drop, .as Q4 P1, .as Q6 P10, .drop, .drop, .drop, .drop, .drop, .drop, .as Q4 P1, .as I .i, .as Q7 P5])]
noncomputable def vqa (N n : Nat) (K : Ex → St → Z3) (n0 : Int) (pairs1 : Z14) (t4 : Y2) (leq5 : Y5) (x6 : Int) : Z3 := iter ((A_zz9).shape 6) (run (A_zz9) N (codeAt Try.f99 [1, 1, 0, 1, 0, 0])) n ([W0 n0, .val Q14 .i pairs1, .u, .u, W1 t4, W5 leq5, W0 x6] ++ List.replicate 121 .u) K
noncomputable def vqb (N n : Nat) (K : Ex → St → Z3) (n0 : Int) (pairs1 : Z14) (t4 : Y2) (leq5 : Y5) (i8 : Int) : Z3 := iter ((A_zz9).shape 18) (run (A_zz9) N (codeAt Try.f99 [1, 1, 1, 0, 1, 0, 0])) n ([W0 n0, .val Q14 .i pairs1, .u, .u, W1 t4, W5 leq5, .u, .u, W0 i8] ++ List.replicate 119 .u) K
noncomputable def vhc (N n : Nat) (K : Ex → St → Z3) (n0 : Int) (t4 : Y2) (leq5 : Y5) (z9 : Int) : Z3 := iter ((A_zz9).shape 26) (run (A_zz9) N (codeAt Try.f99 [1, 1, 1, 1, 0, 1, 0, 0])) n ([W0 n0, .u, .u, .u, W1 t4, W5 leq5, .u, .u, .u, W0 z9] ++ List.replicate 118 .u) K
noncomputable def vgn (N n : Nat) (K : Ex → St → Z3) (n0 : Int) (t4 : Y2) (leq5 : Y5) (z9 x10 : Int) : Z3 := iter ((A_zz9).shape 32) (run (A_zz9) N (codeAt Try.f99 [1, 1, 1, 1, 0, 1, 0, 0, 1, 0, 0, 1, 0, 0])) n ([W0 n0, .u, .u, .u, W1 t4, W5 leq5, .u, .u, .u, W0 z9, W0 x10] ++ List.replicate 117 .u) K
noncomputable def vgf (N n : Nat) (K : Ex → St → Z3) (n0 : Int) (t4 : Y2) (leq5 : Y5) (p12 : Y2) (y13 : Int) : Z3 := iter ((A_zz9).shape 48) (run (A_zz9) N (codeAt Try.f99 [1, 1, 1, 1, 1, 1, 0, 1, 0, 0])) n ([W0 n0, .u, .u, .u, W1 t4, W5 leq5, .u, .u, .u, .u, .u, .u, W1 p12, W0 y13] ++ List.replicate 114 .u) K
noncomputable def vhw (N n : Nat) (K : Ex → St → Z3) (n0 : Int) (t4 : Y2) (leq5 : Y5) (z9 x10 y11 : Int) : Z3 := iter ((A_zz9).shape 38) (run (A_zz9) N (codeAt Try.f99 [1, 1, 1, 1, 0, 1, 0, 0, 1, 0, 0, 1, 0, 0, 1, 0, 0, 1, 0, 0])) n ([W0 n0, .u, .u, .u, W1 t4, W5 leq5, .u, .u, .u, W0 z9, W0 x10, W0 y11] ++ List.replicate 116 .u) K
noncomputable def vkv (N n : Nat) (K : Ex → St → Z3) (n0 : Int) (t4 : Y2) (leq5 : Y5) (p12 : Y2) (y13 : Int) (below14 : Y4) (x15 : Int) : Z3 := iter ((A_zz9).shape 56) (run (A_zz9) N (codeAt Try.f99 [1, 1, 1, 1, 1, 1, 0, 1, 0, 0, 1, 0, 0, 1, 0, 1, 0, 0])) n ([W0 n0, .u, .u, .u, W1 t4, W5 leq5, .u, .u, .u, .u, .u, .u, W1 p12, W0 y13, W3 below14, W0 x15] ++ List.replicate 112 .u) K
noncomputable abbrev vby : Ex → St → Z3 := finish (A_zz9) S_zz9 Try.f99.results.toList
noncomputable abbrev vayz (kX : St → Z3) (n0 : Int) (pairs1 : Z14) (t4 : Y2) (leq5 : Y5) : Z3 := kX ([W0 n0, .val Q14 .i pairs1, .u, .u, W1 t4, W5 leq5] ++ List.replicate 122 .u)
noncomputable abbrev vajq (kX : St → Z3) (kO : Nat → St → Z3) : Ex → St → Z3 := exK vby 0 ((A_zz9).shape 17) kX kO
noncomputable abbrev vatd (kX : St → Z3) (n0 : Int) (t4 : Y2) (leq5 : Y5) : Z3 := kX ([W0 n0, .u, .u, .u, W1 t4, W5 leq5] ++ List.replicate 122 .u)
noncomputable abbrev vail (kX : St → Z3) (kO : Nat → St → Z3) : Ex → St → Z3 := exK vby 2 ((A_zz9).shape 25) kX kO
noncomputable abbrev vaez (kX : St → Z3) (n0 : Int) (t4 : Y2) (leq5 : Y5) : Z3 := kX ([W0 n0, .u, .u, .u, W1 t4, W5 leq5] ++ List.replicate 122 .u)
noncomputable abbrev vkz (kX : St → Z3) (kO : Nat → St → Z3) : Ex → St → Z3 := exK vby 4 ((A_zz9).shape 45) kX kO
noncomputable abbrev vyz (kX : St → Z3) (n0 : Int) (t4 : Y2) (leq5 : Y5) (z9 : Int) : Z3 := kX ([W0 n0, .u, .u, .u, W1 t4, W5 leq5, .u, .u, .u, W0 z9] ++ List.replicate 118 .u)
noncomputable abbrev vjc (kX : St → Z3) (kO : Nat → St → Z3) : Ex → St → Z3 := exK vby 6 ((A_zz9).shape 29) kX kO
noncomputable abbrev vaef (kX : St → Z3) (t4 p12 : Y2) : Z3 := kX ([.u, .u, .u, .u, W1 t4, .u, .u, .u, .u, .u, .u, .u, W1 p12] ++ List.replicate 115 .u)
noncomputable abbrev viu (kX : St → Z3) (kO : Nat → St → Z3) : Ex → St → Z3 := exK vby 10 ((A_zz9).shape 67) kX kO
noncomputable abbrev vaqv (kX : St → Z3) (n0 : Int) (t4 : Y2) (leq5 : Y5) (z9 x10 : Int) : Z3 := kX ([W0 n0, .u, .u, .u, W1 t4, W5 leq5, .u, .u, .u, W0 z9, W0 x10] ++ List.replicate 117 .u)
noncomputable abbrev vaao (kX : St → Z3) (kO : Nat → St → Z3) : Ex → St → Z3 := exK vby 8 ((A_zz9).shape 35) kX kO
noncomputable abbrev vaqd (kX : St → Z3) (n0 : Int) (t4 : Y2) (leq5 : Y5) (p12 : Y2) (y13 : Int) (below14 : Y4) : Z3 := kX ([W0 n0, .u, .u, .u, W1 t4, W5 leq5, .u, .u, .u, .u, .u, .u, W1 p12, W0 y13, W3 below14] ++ List.replicate 113 .u)
noncomputable abbrev vabx (kX : St → Z3) (kO : Nat → St → Z3) : Ex → St → Z3 := exK vby 12 ((A_zz9).shape 65) kX kO
theorem vasj (N kX kO) : ∀ n, vqa N n (vajq kX kO) = vamn N (vayz kX) n
 | 0 => rfl
 | m + 1 => (show vqa N (m + 1) (vajq kX kO) = vsr (vqa N m (vajq kX kO)) (vayz kX) by kernel_rfl).trans (by rw [vasj N kX kO m]; funext _ _ _ _ _; rfl)
noncomputable abbrev valx (N : Nat) : Ex → St → Z3 := (blockK 0 (sqK (A_zz9) N 17 500008 (codeAt Try.f99 [1, 1, 1]) vby))
theorem vasn (N kX kO) : ∀ n, vqb N n (vail kX kO) = vaiq N (vatd kX) n
 | 0 => rfl
 | m + 1 => (show vqb N (m + 1) (vail kX kO) = vsw (vqb N m (vail kX kO)) (vatd kX) by kernel_rfl).trans (by rw [vasn N kX kO m]; funext _ _ _ _ _; rfl)
noncomputable abbrev vamb (N : Nat) : Ex → St → Z3 := (blockK 2 (sqK (A_zz9) N 25 500012 (codeAt Try.f99 [1, 1, 1, 1]) vby))
theorem vaiw (N kX kO) : ∀ n, vhw N n (vaao kX kO) = vade N (vaqv kX) n
 | 0 => rfl
 | m + 1 => (show vhw N (m + 1) (vaao kX kO) = vmx (vhw N m (vaao kX kO)) (vaqv kX) by kernel_rfl).trans (by rw [vaiw N kX kO m]; funext _ _ _ _ _ _; rfl)
noncomputable abbrev vaau (N m : Nat) (kX : St → Z3) (kO : Nat → St → Z3) : Ex → St → Z3 := (blockK 8 (blockK 7 (sqK (A_zz9) N 35 500017 (codeAt Try.f99 [1, 1, 1, 1, 0, 1, 0, 0, 1, 0, 0, 1, 0, 0, 1, 1]) (itK (A_zz9) N 32 (codeAt Try.f99 [1, 1, 1, 1, 0, 1, 0, 0, 1, 0, 0, 1, 0, 0]) m (vjc kX kO)))))
noncomputable abbrev vbdh (N m : Nat) (kX : St → Z3) (kO : Nat → St → Z3) (st' : St) : Z3 := run (A_zz9) N (codeAt Try.f99 [1, 1, 1, 1, 0, 1, 0, 0, 1, 0, 0, 1, 0, 0, 1, 1]) st' (itK (A_zz9) N 32 (codeAt Try.f99 [1, 1, 1, 1, 0, 1, 0, 0, 1, 0, 0, 1, 0, 0]) m (vjc kX kO))
theorem vbom (N m kX kO) {r} (h : vgn N m (vjc kX kO) = r) : vhw N N (vaau N m kX kO) = vse N r (vyz kX) := by
 rw [show vhw N N (vaau N m kX kO) = vhw N N (vaao (vbdh N m kX kO) fun j => (vaau N m kX kO) (.exit j)) from (by funext _ _ _ _ _ _; exact vac (fun _ => by kernel_rfl) fun _ => by kernel_rfl), vaiw, show vaqv (vbdh N m kX kO) = vnq (vgn N m (vjc kX kO)) by kernel_rfl, h]; rfl
theorem vaih (N kX kO) : ∀ n, vgn N n (vjc kX kO) = vzr N (vyz kX) n
 | 0 => rfl
 | m + 1 => (show vgn N (m + 1) (vjc kX kO) = vnl (vhw N N (vaau N m kX kO)) (vyz kX) by kernel_rfl).trans (by rw [vbom N m kX kO (vaih N kX kO m)]; funext _ _ _ _ _; rfl)
noncomputable abbrev vadv (N m : Nat) (kX : St → Z3) (kO : Nat → St → Z3) : Ex → St → Z3 := (blockK 6 (blockK 5 (sqK (A_zz9) N 29 500014 (codeAt Try.f99 [1, 1, 1, 1, 0, 1, 0, 0, 1, 1]) (itK (A_zz9) N 26 (codeAt Try.f99 [1, 1, 1, 1, 0, 1, 0, 0]) m (vkz kX kO)))))
noncomputable abbrev vbed (N m : Nat) (kX : St → Z3) (kO : Nat → St → Z3) (st' : St) : Z3 := run (A_zz9) N (codeAt Try.f99 [1, 1, 1, 1, 0, 1, 0, 0, 1, 1]) st' (itK (A_zz9) N 26 (codeAt Try.f99 [1, 1, 1, 1, 0, 1, 0, 0]) m (vkz kX kO))
theorem vbny (N m kX kO) {r} (h : vhc N m (vkz kX kO) = r) : vgn N N (vadv N m kX kO) = vre N r (vaez kX) := by
 rw [show vgn N N (vadv N m kX kO) = vgn N N (vjc (vbed N m kX kO) fun j => (vadv N m kX kO) (.exit j)) from (by funext _ _ _ _ _; exact vac (fun _ => by kernel_rfl) fun _ => by kernel_rfl), vaih, show vyz (vbed N m kX kO) = vhm (vhc N m (vkz kX kO)) by kernel_rfl, h]; rfl
theorem valo (N kX kO) : ∀ n, vhc N n (vkz kX kO) = vacp N (vaez kX) n
 | 0 => rfl
 | m + 1 => (show vhc N (m + 1) (vkz kX kO) = vml (vgn N N (vadv N m kX kO)) (vaez kX) by kernel_rfl).trans (by rw [vbny N m kX kO (valo N kX kO m)]; funext _ _ _ _; rfl)
noncomputable abbrev vxv (N : Nat) : Ex → St → Z3 := (blockK 4 (sqK (A_zz9) N 45 500022 (codeAt Try.f99 [1, 1, 1, 1, 1]) vby))
theorem valb (N kX kO) : ∀ n, vkv N n (vabx kX kO) = vyt N (vaqd kX) n
 | 0 => rfl
 | m + 1 => (show vkv N (m + 1) (vabx kX kO) = vmz (vkv N m (vabx kX kO)) (vaqd kX) by kernel_rfl).trans (by rw [valb N kX kO m]; funext _ _ _ _ _ _ _; rfl)
noncomputable abbrev vabp (N m : Nat) (kX : St → Z3) (kO : Nat → St → Z3) : Ex → St → Z3 := (blockK 12 (sqK (A_zz9) N 65 500032 (codeAt Try.f99 [1, 1, 1, 1, 1, 1, 0, 1, 0, 0, 1, 0, 0, 1, 1]) (blockK 11 (sqK (A_zz9) N 51 500025 (codeAt Try.f99 [1, 1, 1, 1, 1, 1, 0, 1, 0, 0, 1, 1]) (itK (A_zz9) N 48 (codeAt Try.f99 [1, 1, 1, 1, 1, 1, 0, 1, 0, 0]) m (viu kX kO))))))
noncomputable abbrev vbej (N m : Nat) (kX : St → Z3) (kO : Nat → St → Z3) (st' : St) : Z3 := run (A_zz9) N (codeAt Try.f99 [1, 1, 1, 1, 1, 1, 0, 1, 0, 0, 1, 0, 0, 1, 1]) st' (blockK 11 (sqK (A_zz9) N 51 500025 (codeAt Try.f99 [1, 1, 1, 1, 1, 1, 0, 1, 0, 0, 1, 1]) (itK (A_zz9) N 48 (codeAt Try.f99 [1, 1, 1, 1, 1, 1, 0, 1, 0, 0]) m (viu kX kO))))
theorem vbnz (N m kX kO) {r} (h : vgf N m (viu kX kO) = r) : vkv N N (vabp N m kX kO) = vrq N r (vaef kX) := by
 rw [show vkv N N (vabp N m kX kO) = vkv N N (vabx (vbej N m kX kO) fun j => (vabp N m kX kO) (.exit j)) from (by funext _ _ _ _ _ _ _; exact vac (fun _ => by kernel_rfl) fun _ => by kernel_rfl), valb, show vaqd (vbej N m kX kO) = vnb (vgf N m (viu kX kO)) by kernel_rfl, h]; rfl
theorem vaip (N kX kO) : ∀ n, vgf N n (viu kX kO) = vxp N (vaef kX) n
 | 0 => rfl
 | m + 1 => (show vgf N (m + 1) (viu kX kO) = vmt (vkv N N (vabp N m kX kO)) (vaef kX) by kernel_rfl).trans (by rw [vbnz N m kX kO (vaip N kX kO m)]; funext _ _ _ _ _; rfl)
noncomputable abbrev vadn (N : Nat) : Ex → St → Z3 := (blockK 10 (sqK (A_zz9) N 67 500033 (codeAt Try.f99 [1, 1, 1, 1, 1, 1, 1]) vby))
noncomputable abbrev vbei (N : Nat) (st' : St) : Z3 := run (A_zz9) N (codeAt Try.f99 [1, 1, 1, 1, 1, 1, 1]) st' vby
theorem vblk (N) : vgf N N (vadn N) = vdq N := by
 rw [show vgf N N (vadn N) = vgf N N (viu (vbei N) fun j => (vadn N) (.exit j)) from (by funext _ _ _ _ _; exact vac (fun _ => by kernel_rfl) fun _ => by kernel_rfl), vaip, show vaef (vbei N) = vgp by kernel_rfl]; rfl
noncomputable abbrev vbcq (N : Nat) (st' : St) : Z3 := run (A_zz9) N (codeAt Try.f99 [1, 1, 1, 1, 1]) st' vby
theorem vbll (N) : vhc N N (vxv N) = vic N := by
 rw [show vhc N N (vxv N) = vhc N N (vkz (vbcq N) fun j => (vxv N) (.exit j)) from (by funext _ _ _ _; exact vac (fun _ => by kernel_rfl) fun _ => by kernel_rfl), valo, show vaez (vbcq N) = vgq (vgf N N (vadn N)) by kernel_rfl, vblk N]; rfl
noncomputable abbrev vbiv (N : Nat) (st' : St) : Z3 := run (A_zz9) N (codeAt Try.f99 [1, 1, 1, 1]) st' vby
theorem vbte (N) : vqb N N (vamb N) = vry N := by
 rw [show vqb N N (vamb N) = vqb N N (vail (vbiv N) fun j => (vamb N) (.exit j)) from (by funext _ _ _ _ _; exact vac (fun _ => by kernel_rfl) fun _ => by kernel_rfl), vasn, show vatd (vbiv N) = vsq (vhc N N (vxv N)) by kernel_rfl, vbll N]; rfl
noncomputable abbrev vbkv (N : Nat) (st' : St) : Z3 := run (A_zz9) N (codeAt Try.f99 [1, 1, 1]) st' vby
theorem vbsy (N) : vqa N N (valx N) = vauq N := by
 rw [show vqa N N (valx N) = vqa N N (vajq (vbkv N) fun j => (valx N) (.exit j)) from (by funext _ _ _ _ _; exact vac (fun _ => by kernel_rfl) fun _ => by kernel_rfl), vasj, show vayz (vbkv N) = vrv (vqb N N (vamb N)) by kernel_rfl, vbte N]; rfl
theorem run0_zz9 (N : Nat) (x : (S_zz9).a.den) : runF (A_zz9) N Try.f99 S_zz9 x = (vbgj (vqa N N (valx N)) x.1 x.2.1) := by kernel_rfl
theorem run_zz9 (N : Nat) (x : (S_zz9).a.den) : runF (A_zz9) N Try.f99 S_zz9 x = zz9 N x.1 x.2.1 := by
  refine (run0_zz9 N x).trans ?_
  rw [vbsy N]
  rfl
theorem fn_zz9 : FnOk Try.prog 99 := ⟨_, Try.func99, by kernel_rfl, by kernel_rfl⟩
theorem good_zz9 : Gx.Good Try.prog 99 S_zz9 := vaa Try.func99 (of_decide_eq_true (by kernel_rfl)) fun x r h => ⟨A_zz9, big, vad tabOk, vab (show SigsOk Try.prog [] from trivial), (run_zz9 big x).trans h⟩
def vci (rec k : Y4 → Int → Int → Z8) (l0 : Y4) (n1 k5 : Int) : Z8 :=
  cond (decide (k5 < (l0.length : Int)))
  ((atI l0 k5).bind fun xq1 =>
  cond (decide (xq1 < n1))
  (rec l0 n1 (IntKind.i64.wrap (k5 + (1 : Int))))
  (k l0 n1 k5))
  (k l0 n1 k5)
def vbk (l0 : Y4) (n1 k5 : Int) : Z8 :=
  cond (decide (k5 < (l0.length : Int)))
  ((atI l0 k5).bind fun xq2 =>
  cond (decide (xq2 = n1))
  (some (l0, (())))
  ((slI l0 0 k5).bind fun xq3 =>
  (appI [] xq3).bind fun xq4 =>
  (appI xq4 [n1]).bind fun xq5 =>
  (slI l0 k5 l0.length).bind fun xq6 =>
  (appI xq5 xq6).bind fun xq7 =>
  some (xq7, (()))))
  ((slI l0 0 k5).bind fun xq8 =>
  (appI [] xq8).bind fun xq9 =>
  (appI xq9 [n1]).bind fun xq10 =>
  (slI l0 k5 l0.length).bind fun xq11 =>
  (appI xq10 xq11).bind fun xq12 =>
  some (xq12, (())))
def vamv (L2 : Y4 → Int → Int → Z8) (l_0 : Y4) (n_1 : Int) : Z8 :=
  L2 l_0 n_1 (0 : Int)
def vrs (N : Nat) (k : Y4 → Int → Int → Z8) : Nat → Y4 → Int → Int → Z8
  | 0, _, _, _ => none
  | m + 1, l0, n1, k5 => vci (vrs N k m) k l0 n1 k5
def vyo (N : Nat) (l0 : Y4) (n1 k5 : Int) : Z8 := vrs N (vbk) N l0 n1 k5
def zz10 (N : Nat) (l_0 : Y4) (n_1 : Int) : Z8 := vamv (vyo N) l_0 n_1
def S_zz10 : Sig := { a := (.pair Q7 (.pair I .unit)), md := [0, 0], mf := [], m := .unit, r := Q7, rf := .i, f := fun x => zz10 big x.1 x.2.1 }
def A_zz10 : Cfg := mkCfg tab [] [(4, [.as Q7 .i, .as I .i, .drop, .drop, .drop, .as I .i]), (9, [.as Q7 .i, .as I .i, .drop, .drop, .drop, .as I .i])]
noncomputable def vjz (N n : Nat) (K : Ex → St → Z8) (l0 : Y4) (n1 k5 : Int) : Z8 := iter ((A_zz10).shape 4) (run (A_zz10) N (codeAt Try.f102 [1, 1, 0, 0, 0])) n ([W4 l0, W0 n1, .u, .u, .u, W0 k5] ++ List.replicate 39 .u) K
noncomputable abbrev vayy : Ex → St → Z8 := finish (A_zz10) S_zz10 Try.f102.results.toList
noncomputable abbrev vaov (kX : St → Z8) (l0 : Y4) (n1 k5 : Int) : Z8 := kX ([W4 l0, W0 n1, .u, .u, .u, W0 k5] ++ List.replicate 39 .u)
noncomputable abbrev vxu (kX : St → Z8) (kO : Nat → St → Z8) : Ex → St → Z8 := exK vayy 0 ((A_zz10).shape 9) kX kO
theorem vaix (N kX kO) : ∀ n, vjz N n (vxu kX kO) = vrs N (vaov kX) n
 | 0 => rfl
 | m + 1 => (show vjz N (m + 1) (vxu kX kO) = vci (vjz N m (vxu kX kO)) (vaov kX) by kernel_rfl).trans (by rw [vaix N kX kO m]; funext _ _ _; rfl)
noncomputable abbrev vacv (N : Nat) : Ex → St → Z8 := (blockK 0 (sqK (A_zz10) N 9 500004 (codeAt Try.f102 [1, 1, 1]) vayy))
noncomputable abbrev vbek (N : Nat) (st' : St) : Z8 := run (A_zz10) N (codeAt Try.f102 [1, 1, 1]) st' vayy
theorem vbnm (N) : vjz N N (vacv N) = vyo N := by
 rw [show vjz N N (vacv N) = vjz N N (vxu (vbek N) fun j => (vacv N) (.exit j)) from (by funext _ _ _; exact vac (fun _ => by kernel_rfl) fun _ => by kernel_rfl), vaix, show vaov (vbek N) = vbk by kernel_rfl]; rfl
theorem run0_zz10 (N : Nat) (x : (S_zz10).a.den) : runF (A_zz10) N Try.f102 S_zz10 x = (vamv (vjz N N (vacv N)) x.1 x.2.1) := by kernel_rfl
theorem run_zz10 (N : Nat) (x : (S_zz10).a.den) : runF (A_zz10) N Try.f102 S_zz10 x = zz10 N x.1 x.2.1 := by
  refine (run0_zz10 N x).trans ?_
  rw [vbnm N]
  rfl
theorem fn_zz10 : FnOk Try.prog 102 := ⟨_, Try.func102, by kernel_rfl, by kernel_rfl⟩
theorem good_zz10 : Gx.Good Try.prog 102 S_zz10 := vaa Try.func102 (of_decide_eq_true (by kernel_rfl)) fun x r h => ⟨A_zz10, big, vad tabOk, vab (show SigsOk Try.prog [] from trivial), (run_zz10 big x).trans h⟩
end Go.Proofs.Yteanfidobhpchaa
