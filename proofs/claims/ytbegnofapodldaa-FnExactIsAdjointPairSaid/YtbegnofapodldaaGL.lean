import Derived.Test.YtbegnofapodldaaGLp1
set_option maxRecDepth 100000
set_option linter.unusedVariables false
namespace Go.Proofs.Ytbegnofapodldaa
open Go Go.Gx Go.Proofs

/-! impl_order_meetTable -/
def impl_order_meetTable_b7 (rec : (List (List Bool)) → (List (List Int)) → Int → (List Int) → Int → Int → Int → Int → Option (((List (List Int)) × (Bool × Unit)) × Unit)) (k : (List (List Bool)) → (List (List Int)) → (List Int) → Int → Int → Option (((List (List Int)) × (Bool × Unit)) × Unit)) (o1 : (List (List Bool))) (table4 : (List (List Int))) (x5 : Int) (row6 : (List Int)) (t11 : Int) (t12 : Int) (t17 : Int) (t18 : Int) : Option (((List (List Int)) × (Bool × Unit)) × Unit) :=
  cond (decide (t18 < t17))
  ((impl_order_those_k_order_meetTable_c1 big o1 (o1, x5, t18, ())).bind fun rq1 =>
  (impl_order_greatest big o1 rq1.1).bind fun rq2 =>
  cond (decide (rq2.1 < (0 : Int)))
  (some (([], false, ()), (())))
  ((appI row6 [rq2.1]).bind fun xq3 =>
  rec o1 table4 x5 xq3 t11 t12 t17 (IntKind.i64.wrap (t18 + (1 : Int)))))
  (k o1 table4 row6 t11 t12)
def impl_order_meetTable_a7 (rec : (List (List Bool)) → (List (List Int)) → Int → Int → Option (((List (List Int)) × (Bool × Unit)) × Unit)) (o1 : (List (List Bool))) (table4 : (List (List Int))) (row6 : (List Int)) (t11 : Int) (t12 : Int) : Option (((List (List Int)) × (Bool × Unit)) × Unit) :=
  (appI table4 [row6]).bind fun xq4 =>
  rec o1 xq4 t11 (IntKind.i64.wrap (t12 + (1 : Int)))
def impl_order_meetTable_b3 (L7 : (List (List Bool)) → (List (List Int)) → Int → (List Int) → Int → Int → Int → Int → Option (((List (List Int)) × (Bool × Unit)) × Unit)) (k : (List (List Int)) → Option (((List (List Int)) × (Bool × Unit)) × Unit)) (o1 : (List (List Bool))) (table4 : (List (List Int))) (t11 : Int) (t12 : Int) : Option (((List (List Int)) × (Bool × Unit)) × Unit) :=
  cond (decide (t12 < t11))
  (L7 o1 table4 t12 [] t11 t12 (o1.length : Int) (0 : Int))
  (k table4)
def impl_order_meetTable_a3 (table4 : (List (List Int))) : Option (((List (List Int)) × (Bool × Unit)) × Unit) :=
  some ((table4, true, ()), (()))
def impl_order_meetTable_s (L3 : (List (List Bool)) → (List (List Int)) → Int → Int → Option (((List (List Int)) × (Bool × Unit)) × Unit)) (o_0 : (List (List Bool))) : Option (((List (List Int)) × (Bool × Unit)) × Unit) :=
  L3 o_0 [] (o_0.length : Int) (0 : Int)
def impl_order_meetTable_l7 (N : Nat) (k : (List (List Bool)) → (List (List Int)) → (List Int) → Int → Int → Option (((List (List Int)) × (Bool × Unit)) × Unit)) : Nat → (List (List Bool)) → (List (List Int)) → Int → (List Int) → Int → Int → Int → Int → Option (((List (List Int)) × (Bool × Unit)) × Unit)
  | 0, _, _, _, _, _, _, _, _ => none
  | m + 1, o1, table4, x5, row6, t11, t12, t17, t18 => impl_order_meetTable_b7 (impl_order_meetTable_l7 N k m) k o1 table4 x5 row6 t11 t12 t17 t18
def impl_order_meetTable_F7 (N : Nat) (rec : (List (List Bool)) → (List (List Int)) → Int → Int → Option (((List (List Int)) × (Bool × Unit)) × Unit)) (k : (List (List Int)) → Option (((List (List Int)) × (Bool × Unit)) × Unit)) (o1 : (List (List Bool))) (table4 : (List (List Int))) (x5 : Int) (row6 : (List Int)) (t11 : Int) (t12 : Int) (t17 : Int) (t18 : Int) : Option (((List (List Int)) × (Bool × Unit)) × Unit) := impl_order_meetTable_l7 N (impl_order_meetTable_a7 rec) N o1 table4 x5 row6 t11 t12 t17 t18
def impl_order_meetTable_l3 (N : Nat) (k : (List (List Int)) → Option (((List (List Int)) × (Bool × Unit)) × Unit)) : Nat → (List (List Bool)) → (List (List Int)) → Int → Int → Option (((List (List Int)) × (Bool × Unit)) × Unit)
  | 0, _, _, _, _ => none
  | m + 1, o1, table4, t11, t12 => impl_order_meetTable_b3 (impl_order_meetTable_F7 N (impl_order_meetTable_l3 N k m) k) k o1 table4 t11 t12
def impl_order_meetTable_F3 (N : Nat) (o1 : (List (List Bool))) (table4 : (List (List Int))) (t11 : Int) (t12 : Int) : Option (((List (List Int)) × (Bool × Unit)) × Unit) := impl_order_meetTable_l3 N (impl_order_meetTable_a3) N o1 table4 t11 t12
def impl_order_meetTable (N : Nat) (o_0 : (List (List Bool))) : Option (((List (List Int)) × (Bool × Unit)) × Unit) := impl_order_meetTable_s (impl_order_meetTable_F3 N) o_0
def S_impl_order_meetTable : Sig := { a := (.pair (.sl (.sl .bool)) .unit), md := [0], mf := [], m := .unit, r := (.tup (.pair (.sl (.sl I)) (.pair .bool .unit))), rf := (.p (.o (.o .i)) .i), f := fun x => impl_order_meetTable big x.1 }
def A_impl_order_meetTable : Cfg := mkCfg tab [(135, S_impl_order_those_k_order_meetTable_c1), (151, S_impl_order_greatest)] [(6, [.drop, .as (.ptr (.sl (.sl .bool))) .i, .drop, .drop, .as (.sl (.sl I)) (.o (.o .i)), .drop, .drop, .drop, .drop, .drop, .drop, .as I .i, .as I .i]), (14, [.drop, .as (.ptr (.sl (.sl .bool))) .i, .drop, .drop, .as (.sl (.sl I)) (.o (.o .i)), .as (.ptr I) .i, .as (.sl I) (.o .i), .drop, .drop, .drop, .drop, .as I .i, .as I .i, .drop, .drop, .drop, .drop, .as I .i, .as I .i]), (33, [.drop, .drop, .drop, .drop, .as (.sl (.sl I)) (.o (.o .i))]), (19, [.drop, .as (.ptr (.sl (.sl .bool))) .i, .drop, .drop, .as (.sl (.sl I)) (.o (.o .i)), .as (.ptr I) .i, .as (.sl I) (.o .i), .as (.ptr I) .i, .drop, .drop, .drop, .as I .i, .as I .i, .drop, .drop, .drop, .drop, .as I .i, .as I .i]), (29, [.drop, .as (.ptr (.sl (.sl .bool))) .i, .drop, .drop, .as (.sl (.sl I)) (.o (.o .i)), .drop, .as (.sl I) (.o .i), .drop, .drop, .drop, .drop, .as I .i, .as I .i])]
def impl_order_meetTable_R3 (cd : Code) (N n : Nat) (K : Ex → St → Option (((List (List Int)) × (Bool × Unit)) × Unit)) (o1 : (List (List Bool))) (table4 : (List (List Int))) (t11 : Int) (t12 : Int) : Option (((List (List Int)) × (Bool × Unit)) × Unit) := iter ((A_impl_order_meetTable).shape 6) (run (A_impl_order_meetTable) N cd) n ([.u, .val (.ptr (.sl (.sl .bool))) .i o1, .u, .u, .val (.sl (.sl I)) (.o (.o .i)) table4, .u, .u, .u, .u, .u, .u, .val I .i t11, .val I .i t12] ++ List.replicate 26 .u) K
def impl_order_meetTable_R7 (cd : Code) (N n : Nat) (K : Ex → St → Option (((List (List Int)) × (Bool × Unit)) × Unit)) (o1 : (List (List Bool))) (table4 : (List (List Int))) (x5 : Int) (row6 : (List Int)) (t11 : Int) (t12 : Int) (t17 : Int) (t18 : Int) : Option (((List (List Int)) × (Bool × Unit)) × Unit) := iter ((A_impl_order_meetTable).shape 14) (run (A_impl_order_meetTable) N cd) n ([.u, .val (.ptr (.sl (.sl .bool))) .i o1, .u, .u, .val (.sl (.sl I)) (.o (.o .i)) table4, .val (.ptr I) .i x5, .val (.sl I) (.o .i) row6, .u, .u, .u, .u, .val I .i t11, .val I .i t12, .u, .u, .u, .u, .val I .i t17, .val I .i t18] ++ List.replicate 20 .u) K
theorem impl_order_meetTable_step7 (N : Nat) (m : Nat) (kX : St → Option (((List (List Int)) × (Bool × Unit)) × Unit)) (kO : Nat → St → Option (((List (List Int)) × (Bool × Unit)) × Unit)) (o1 : (List (List Bool))) (table4 : (List (List Int))) (x5 : Int) (row6 : (List Int)) (t11 : Int) (t12 : Int) (t17 : Int) (t18 : Int) : impl_order_meetTable_R7 (codeAt Try.f133 [1, 1, 0, 1, 0, 0, 1, 1, 0, 0, 1, 1, 0, 1, 0, 0]) N (m + 1) (exK (finish (A_impl_order_meetTable) S_impl_order_meetTable Try.f133.results.toList) 2 ((A_impl_order_meetTable).shape 29) kX kO) o1 table4 x5 row6 t11 t12 t17 t18 = impl_order_meetTable_b7 (impl_order_meetTable_R7 (codeAt Try.f133 [1, 1, 0, 1, 0, 0, 1, 1, 0, 0, 1, 1, 0, 1, 0, 0]) N m (exK (finish (A_impl_order_meetTable) S_impl_order_meetTable Try.f133.results.toList) 2 ((A_impl_order_meetTable).shape 29) kX kO)) (fun (o1 : (List (List Bool))) (table4 : (List (List Int))) (row6 : (List Int)) (t11 : Int) (t12 : Int) => kX ([.u, .val (.ptr (.sl (.sl .bool))) .i o1, .u, .u, .val (.sl (.sl I)) (.o (.o .i)) table4, .u, .val (.sl I) (.o .i) row6, .u, .u, .u, .u, .val I .i t11, .val I .i t12] ++ List.replicate 26 .u)) o1 table4 x5 row6 t11 t12 t17 t18 := by kernel_rfl
theorem impl_order_meetTable_iter7 (N : Nat) (kX : St → Option (((List (List Int)) × (Bool × Unit)) × Unit)) (kO : Nat → St → Option (((List (List Int)) × (Bool × Unit)) × Unit)) : ∀ (n : Nat) (o1 : (List (List Bool))) (table4 : (List (List Int))) (x5 : Int) (row6 : (List Int)) (t11 : Int) (t12 : Int) (t17 : Int) (t18 : Int), impl_order_meetTable_R7 (codeAt Try.f133 [1, 1, 0, 1, 0, 0, 1, 1, 0, 0, 1, 1, 0, 1, 0, 0]) N n (exK (finish (A_impl_order_meetTable) S_impl_order_meetTable Try.f133.results.toList) 2 ((A_impl_order_meetTable).shape 29) kX kO) o1 table4 x5 row6 t11 t12 t17 t18 = impl_order_meetTable_l7 N (fun (o1 : (List (List Bool))) (table4 : (List (List Int))) (row6 : (List Int)) (t11 : Int) (t12 : Int) => kX ([.u, .val (.ptr (.sl (.sl .bool))) .i o1, .u, .u, .val (.sl (.sl I)) (.o (.o .i)) table4, .u, .val (.sl I) (.o .i) row6, .u, .u, .u, .u, .val I .i t11, .val I .i t12] ++ List.replicate 26 .u)) n o1 table4 x5 row6 t11 t12 t17 t18
  | 0, _, _, _, _, _, _, _, _ => rfl
  | m + 1, o1, table4, x5, row6, t11, t12, t17, t18 => by
    have hrec : impl_order_meetTable_R7 (codeAt Try.f133 [1, 1, 0, 1, 0, 0, 1, 1, 0, 0, 1, 1, 0, 1, 0, 0]) N m (exK (finish (A_impl_order_meetTable) S_impl_order_meetTable Try.f133.results.toList) 2 ((A_impl_order_meetTable).shape 29) kX kO) = (impl_order_meetTable_l7 N (fun (o1 : (List (List Bool))) (table4 : (List (List Int))) (row6 : (List Int)) (t11 : Int) (t12 : Int) => kX ([.u, .val (.ptr (.sl (.sl .bool))) .i o1, .u, .u, .val (.sl (.sl I)) (.o (.o .i)) table4, .u, .val (.sl I) (.o .i) row6, .u, .u, .u, .u, .val I .i t11, .val I .i t12] ++ List.replicate 26 .u)) m) := (funext fun o1 => (funext fun table4 => (funext fun x5 => (funext fun row6 => (funext fun t11 => (funext fun t12 => (funext fun t17 => (funext fun t18 => impl_order_meetTable_iter7 N kX kO m o1 table4 x5 row6 t11 t12 t17 t18))))))))
    refine (impl_order_meetTable_step7 N m kX kO o1 table4 x5 row6 t11 t12 t17 t18).trans ?_
    rw [hrec]
    rfl
theorem impl_order_meetTable_after7 (N : Nat) (m : Nat) (kX : St → Option (((List (List Int)) × (Bool × Unit)) × Unit)) (kO : Nat → St → Option (((List (List Int)) × (Bool × Unit)) × Unit)) (o1 : (List (List Bool))) (table4 : (List (List Int))) (row6 : (List Int)) (t11 : Int) (t12 : Int) : (fun st' => run (A_impl_order_meetTable) N (codeAt Try.f133 [1, 1, 0, 1, 0, 0, 1, 1, 0, 0, 1, 1, 1]) st' (blockK 1 (seqK ((A_impl_order_meetTable).shape 31) (run (A_impl_order_meetTable) N (codeAt Try.f133 [1, 1, 0, 1, 0, 0, 1, 1, 1])) (iterK ((A_impl_order_meetTable).shape 6) (run (A_impl_order_meetTable) N (codeAt Try.f133 [1, 1, 0, 1, 0, 0])) m (exK (finish (A_impl_order_meetTable) S_impl_order_meetTable Try.f133.results.toList) 0 ((A_impl_order_meetTable).shape 33) kX kO))))) ([.u, .val (.ptr (.sl (.sl .bool))) .i o1, .u, .u, .val (.sl (.sl I)) (.o (.o .i)) table4, .u, .val (.sl I) (.o .i) row6, .u, .u, .u, .u, .val I .i t11, .val I .i t12] ++ List.replicate 26 .u) = impl_order_meetTable_a7 (impl_order_meetTable_R3 (codeAt Try.f133 [1, 1, 0, 1, 0, 0]) N m (exK (finish (A_impl_order_meetTable) S_impl_order_meetTable Try.f133.results.toList) 0 ((A_impl_order_meetTable).shape 33) kX kO)) o1 table4 row6 t11 t12 := by kernel_rfl
theorem impl_order_meetTable_in7 (N : Nat) (m : Nat) (kX : St → Option (((List (List Int)) × (Bool × Unit)) × Unit)) (kO : Nat → St → Option (((List (List Int)) × (Bool × Unit)) × Unit)) (recF : (List (List Bool)) → (List (List Int)) → Int → Int → Option (((List (List Int)) × (Bool × Unit)) × Unit)) (hrec : impl_order_meetTable_R3 (codeAt Try.f133 [1, 1, 0, 1, 0, 0]) N m (exK (finish (A_impl_order_meetTable) S_impl_order_meetTable Try.f133.results.toList) 0 ((A_impl_order_meetTable).shape 33) kX kO) = recF) (o1 : (List (List Bool))) (table4 : (List (List Int))) (x5 : Int) (row6 : (List Int)) (t11 : Int) (t12 : Int) (t17 : Int) (t18 : Int) : impl_order_meetTable_R7 (codeAt Try.f133 [1, 1, 0, 1, 0, 0, 1, 1, 0, 0, 1, 1, 0, 1, 0, 0]) N N (blockK 2 (seqK ((A_impl_order_meetTable).shape 29) (run (A_impl_order_meetTable) N (codeAt Try.f133 [1, 1, 0, 1, 0, 0, 1, 1, 0, 0, 1, 1, 1])) (blockK 1 (seqK ((A_impl_order_meetTable).shape 31) (run (A_impl_order_meetTable) N (codeAt Try.f133 [1, 1, 0, 1, 0, 0, 1, 1, 1])) (iterK ((A_impl_order_meetTable).shape 6) (run (A_impl_order_meetTable) N (codeAt Try.f133 [1, 1, 0, 1, 0, 0])) m (exK (finish (A_impl_order_meetTable) S_impl_order_meetTable Try.f133.results.toList) 0 ((A_impl_order_meetTable).shape 33) kX kO)))))) o1 table4 x5 row6 t11 t12 t17 t18 = impl_order_meetTable_F7 N recF (fun (table4 : (List (List Int))) => kX ([.u, .u, .u, .u, .val (.sl (.sl I)) (.o (.o .i)) table4] ++ List.replicate 34 .u)) o1 table4 x5 row6 t11 t12 t17 t18 :=
  have h : (fun (o1 : (List (List Bool))) (table4 : (List (List Int))) (row6 : (List Int)) (t11 : Int) (t12 : Int) => (fun st' => run (A_impl_order_meetTable) N (codeAt Try.f133 [1, 1, 0, 1, 0, 0, 1, 1, 0, 0, 1, 1, 1]) st' (blockK 1 (seqK ((A_impl_order_meetTable).shape 31) (run (A_impl_order_meetTable) N (codeAt Try.f133 [1, 1, 0, 1, 0, 0, 1, 1, 1])) (iterK ((A_impl_order_meetTable).shape 6) (run (A_impl_order_meetTable) N (codeAt Try.f133 [1, 1, 0, 1, 0, 0])) m (exK (finish (A_impl_order_meetTable) S_impl_order_meetTable Try.f133.results.toList) 0 ((A_impl_order_meetTable).shape 33) kX kO))))) ([.u, .val (.ptr (.sl (.sl .bool))) .i o1, .u, .u, .val (.sl (.sl I)) (.o (.o .i)) table4, .u, .val (.sl I) (.o .i) row6, .u, .u, .u, .u, .val I .i t11, .val I .i t12] ++ List.replicate 26 .u)) = (impl_order_meetTable_a7 recF) := (funext fun o1 => (funext fun table4 => (funext fun row6 => (funext fun t11 => (funext fun t12 => (impl_order_meetTable_after7 N m kX kO o1 table4 row6 t11 t12).trans (by rw [hrec]))))))
  have e : impl_order_meetTable_R7 (codeAt Try.f133 [1, 1, 0, 1, 0, 0, 1, 1, 0, 0, 1, 1, 0, 1, 0, 0]) N N (blockK 2 (seqK ((A_impl_order_meetTable).shape 29) (run (A_impl_order_meetTable) N (codeAt Try.f133 [1, 1, 0, 1, 0, 0, 1, 1, 0, 0, 1, 1, 1])) (blockK 1 (seqK ((A_impl_order_meetTable).shape 31) (run (A_impl_order_meetTable) N (codeAt Try.f133 [1, 1, 0, 1, 0, 0, 1, 1, 1])) (iterK ((A_impl_order_meetTable).shape 6) (run (A_impl_order_meetTable) N (codeAt Try.f133 [1, 1, 0, 1, 0, 0])) m (exK (finish (A_impl_order_meetTable) S_impl_order_meetTable Try.f133.results.toList) 0 ((A_impl_order_meetTable).shape 33) kX kO)))))) o1 table4 x5 row6 t11 t12 t17 t18 = impl_order_meetTable_R7 (codeAt Try.f133 [1, 1, 0, 1, 0, 0, 1, 1, 0, 0, 1, 1, 0, 1, 0, 0]) N N (exK (finish (A_impl_order_meetTable) S_impl_order_meetTable Try.f133.results.toList) 2 ((A_impl_order_meetTable).shape 29) (fun st' => run (A_impl_order_meetTable) N (codeAt Try.f133 [1, 1, 0, 1, 0, 0, 1, 1, 0, 0, 1, 1, 1]) st' (blockK 1 (seqK ((A_impl_order_meetTable).shape 31) (run (A_impl_order_meetTable) N (codeAt Try.f133 [1, 1, 0, 1, 0, 0, 1, 1, 1])) (iterK ((A_impl_order_meetTable).shape 6) (run (A_impl_order_meetTable) N (codeAt Try.f133 [1, 1, 0, 1, 0, 0])) m (exK (finish (A_impl_order_meetTable) S_impl_order_meetTable Try.f133.results.toList) 0 ((A_impl_order_meetTable).shape 33) kX kO))))) (fun j st => (blockK 2 (seqK ((A_impl_order_meetTable).shape 29) (run (A_impl_order_meetTable) N (codeAt Try.f133 [1, 1, 0, 1, 0, 0, 1, 1, 0, 0, 1, 1, 1])) (blockK 1 (seqK ((A_impl_order_meetTable).shape 31) (run (A_impl_order_meetTable) N (codeAt Try.f133 [1, 1, 0, 1, 0, 0, 1, 1, 1])) (iterK ((A_impl_order_meetTable).shape 6) (run (A_impl_order_meetTable) N (codeAt Try.f133 [1, 1, 0, 1, 0, 0])) m (exK (finish (A_impl_order_meetTable) S_impl_order_meetTable Try.f133.results.toList) 0 ((A_impl_order_meetTable).shape 33) kX kO)))))) (.exit j) st)) o1 table4 x5 row6 t11 t12 t17 t18 := iter_ex (fun st => by kernel_rfl) (fun st => by kernel_rfl)
  (e.trans (impl_order_meetTable_iter7 N (fun st' => run (A_impl_order_meetTable) N (codeAt Try.f133 [1, 1, 0, 1, 0, 0, 1, 1, 0, 0, 1, 1, 1]) st' (blockK 1 (seqK ((A_impl_order_meetTable).shape 31) (run (A_impl_order_meetTable) N (codeAt Try.f133 [1, 1, 0, 1, 0, 0, 1, 1, 1])) (iterK ((A_impl_order_meetTable).shape 6) (run (A_impl_order_meetTable) N (codeAt Try.f133 [1, 1, 0, 1, 0, 0])) m (exK (finish (A_impl_order_meetTable) S_impl_order_meetTable Try.f133.results.toList) 0 ((A_impl_order_meetTable).shape 33) kX kO))))) (fun j st => (blockK 2 (seqK ((A_impl_order_meetTable).shape 29) (run (A_impl_order_meetTable) N (codeAt Try.f133 [1, 1, 0, 1, 0, 0, 1, 1, 0, 0, 1, 1, 1])) (blockK 1 (seqK ((A_impl_order_meetTable).shape 31) (run (A_impl_order_meetTable) N (codeAt Try.f133 [1, 1, 0, 1, 0, 0, 1, 1, 1])) (iterK ((A_impl_order_meetTable).shape 6) (run (A_impl_order_meetTable) N (codeAt Try.f133 [1, 1, 0, 1, 0, 0])) m (exK (finish (A_impl_order_meetTable) S_impl_order_meetTable Try.f133.results.toList) 0 ((A_impl_order_meetTable).shape 33) kX kO)))))) (.exit j) st) N o1 table4 x5 row6 t11 t12 t17 t18)).trans (congrArg (fun k => impl_order_meetTable_l7 N k N o1 table4 x5 row6 t11 t12 t17 t18) h)
theorem impl_order_meetTable_step3 (N : Nat) (m : Nat) (kX : St → Option (((List (List Int)) × (Bool × Unit)) × Unit)) (kO : Nat → St → Option (((List (List Int)) × (Bool × Unit)) × Unit)) (o1 : (List (List Bool))) (table4 : (List (List Int))) (t11 : Int) (t12 : Int) : impl_order_meetTable_R3 (codeAt Try.f133 [1, 1, 0, 1, 0, 0]) N (m + 1) (exK (finish (A_impl_order_meetTable) S_impl_order_meetTable Try.f133.results.toList) 0 ((A_impl_order_meetTable).shape 33) kX kO) o1 table4 t11 t12 = impl_order_meetTable_b3 (impl_order_meetTable_R7 (codeAt Try.f133 [1, 1, 0, 1, 0, 0, 1, 1, 0, 0, 1, 1, 0, 1, 0, 0]) N N (blockK 2 (seqK ((A_impl_order_meetTable).shape 29) (run (A_impl_order_meetTable) N (codeAt Try.f133 [1, 1, 0, 1, 0, 0, 1, 1, 0, 0, 1, 1, 1])) (blockK 1 (seqK ((A_impl_order_meetTable).shape 31) (run (A_impl_order_meetTable) N (codeAt Try.f133 [1, 1, 0, 1, 0, 0, 1, 1, 1])) (iterK ((A_impl_order_meetTable).shape 6) (run (A_impl_order_meetTable) N (codeAt Try.f133 [1, 1, 0, 1, 0, 0])) m (exK (finish (A_impl_order_meetTable) S_impl_order_meetTable Try.f133.results.toList) 0 ((A_impl_order_meetTable).shape 33) kX kO))))))) (fun (table4 : (List (List Int))) => kX ([.u, .u, .u, .u, .val (.sl (.sl I)) (.o (.o .i)) table4] ++ List.replicate 34 .u)) o1 table4 t11 t12 := by kernel_rfl
theorem impl_order_meetTable_iter3 (N : Nat) (kX : St → Option (((List (List Int)) × (Bool × Unit)) × Unit)) (kO : Nat → St → Option (((List (List Int)) × (Bool × Unit)) × Unit)) : ∀ (n : Nat) (o1 : (List (List Bool))) (table4 : (List (List Int))) (t11 : Int) (t12 : Int), impl_order_meetTable_R3 (codeAt Try.f133 [1, 1, 0, 1, 0, 0]) N n (exK (finish (A_impl_order_meetTable) S_impl_order_meetTable Try.f133.results.toList) 0 ((A_impl_order_meetTable).shape 33) kX kO) o1 table4 t11 t12 = impl_order_meetTable_l3 N (fun (table4 : (List (List Int))) => kX ([.u, .u, .u, .u, .val (.sl (.sl I)) (.o (.o .i)) table4] ++ List.replicate 34 .u)) n o1 table4 t11 t12
  | 0, _, _, _, _ => rfl
  | m + 1, o1, table4, t11, t12 => by
    have hrec : impl_order_meetTable_R3 (codeAt Try.f133 [1, 1, 0, 1, 0, 0]) N m (exK (finish (A_impl_order_meetTable) S_impl_order_meetTable Try.f133.results.toList) 0 ((A_impl_order_meetTable).shape 33) kX kO) = (impl_order_meetTable_l3 N (fun (table4 : (List (List Int))) => kX ([.u, .u, .u, .u, .val (.sl (.sl I)) (.o (.o .i)) table4] ++ List.replicate 34 .u)) m) := (funext fun o1 => (funext fun table4 => (funext fun t11 => (funext fun t12 => impl_order_meetTable_iter3 N kX kO m o1 table4 t11 t12))))
    refine (impl_order_meetTable_step3 N m kX kO o1 table4 t11 t12).trans ?_
    rw [(funext fun o1 => (funext fun table4 => (funext fun x5 => (funext fun row6 => (funext fun t11 => (funext fun t12 => (funext fun t17 => (funext fun t18 => impl_order_meetTable_in7 N m kX kO (impl_order_meetTable_l3 N (fun (table4 : (List (List Int))) => kX ([.u, .u, .u, .u, .val (.sl (.sl I)) (.o (.o .i)) table4] ++ List.replicate 34 .u)) m) hrec o1 table4 x5 row6 t11 t12 t17 t18))))))))]
    rfl
theorem impl_order_meetTable_after3 (N : Nat) (table4 : (List (List Int))) : (fun st' => run (A_impl_order_meetTable) N (codeAt Try.f133 [1, 1, 1]) st' (finish (A_impl_order_meetTable) S_impl_order_meetTable Try.f133.results.toList)) ([.u, .u, .u, .u, .val (.sl (.sl I)) (.o (.o .i)) table4] ++ List.replicate 34 .u) = impl_order_meetTable_a3 table4 := by kernel_rfl
theorem impl_order_meetTable_in3 (N : Nat) (o1 : (List (List Bool))) (table4 : (List (List Int))) (t11 : Int) (t12 : Int) : impl_order_meetTable_R3 (codeAt Try.f133 [1, 1, 0, 1, 0, 0]) N N (blockK 0 (seqK ((A_impl_order_meetTable).shape 33) (run (A_impl_order_meetTable) N (codeAt Try.f133 [1, 1, 1])) (finish (A_impl_order_meetTable) S_impl_order_meetTable Try.f133.results.toList))) o1 table4 t11 t12 = impl_order_meetTable_F3 N o1 table4 t11 t12 :=
  have h : (fun (table4 : (List (List Int))) => (fun st' => run (A_impl_order_meetTable) N (codeAt Try.f133 [1, 1, 1]) st' (finish (A_impl_order_meetTable) S_impl_order_meetTable Try.f133.results.toList)) ([.u, .u, .u, .u, .val (.sl (.sl I)) (.o (.o .i)) table4] ++ List.replicate 34 .u)) = (impl_order_meetTable_a3) := (funext fun table4 => impl_order_meetTable_after3 N table4)
  have e : impl_order_meetTable_R3 (codeAt Try.f133 [1, 1, 0, 1, 0, 0]) N N (blockK 0 (seqK ((A_impl_order_meetTable).shape 33) (run (A_impl_order_meetTable) N (codeAt Try.f133 [1, 1, 1])) (finish (A_impl_order_meetTable) S_impl_order_meetTable Try.f133.results.toList))) o1 table4 t11 t12 = impl_order_meetTable_R3 (codeAt Try.f133 [1, 1, 0, 1, 0, 0]) N N (exK (finish (A_impl_order_meetTable) S_impl_order_meetTable Try.f133.results.toList) 0 ((A_impl_order_meetTable).shape 33) (fun st' => run (A_impl_order_meetTable) N (codeAt Try.f133 [1, 1, 1]) st' (finish (A_impl_order_meetTable) S_impl_order_meetTable Try.f133.results.toList)) (fun j st => (blockK 0 (seqK ((A_impl_order_meetTable).shape 33) (run (A_impl_order_meetTable) N (codeAt Try.f133 [1, 1, 1])) (finish (A_impl_order_meetTable) S_impl_order_meetTable Try.f133.results.toList))) (.exit j) st)) o1 table4 t11 t12 := iter_ex (fun st => by kernel_rfl) (fun st => by kernel_rfl)
  (e.trans (impl_order_meetTable_iter3 N (fun st' => run (A_impl_order_meetTable) N (codeAt Try.f133 [1, 1, 1]) st' (finish (A_impl_order_meetTable) S_impl_order_meetTable Try.f133.results.toList)) (fun j st => (blockK 0 (seqK ((A_impl_order_meetTable).shape 33) (run (A_impl_order_meetTable) N (codeAt Try.f133 [1, 1, 1])) (finish (A_impl_order_meetTable) S_impl_order_meetTable Try.f133.results.toList))) (.exit j) st) N o1 table4 t11 t12)).trans (congrArg (fun k => impl_order_meetTable_l3 N k N o1 table4 t11 t12) h)
theorem run0_impl_order_meetTable (N : Nat) (x : (S_impl_order_meetTable).a.den) : runF (A_impl_order_meetTable) N Try.f133 S_impl_order_meetTable x = (impl_order_meetTable_s (impl_order_meetTable_R3 (codeAt Try.f133 [1, 1, 0, 1, 0, 0]) N N (blockK 0 (seqK ((A_impl_order_meetTable).shape 33) (run (A_impl_order_meetTable) N (codeAt Try.f133 [1, 1, 1])) (finish (A_impl_order_meetTable) S_impl_order_meetTable Try.f133.results.toList)))) x.1) := by kernel_rfl
theorem run_impl_order_meetTable (N : Nat) (x : (S_impl_order_meetTable).a.den) : runF (A_impl_order_meetTable) N Try.f133 S_impl_order_meetTable x = impl_order_meetTable N x.1 := by
  refine (run0_impl_order_meetTable N x).trans ?_
  rw [(funext fun o1 => (funext fun table4 => (funext fun t11 => (funext fun t12 => impl_order_meetTable_in3 N o1 table4 t11 t12))))]
  rfl
theorem fn_impl_order_meetTable : FnOk Try.prog 133 := ⟨_, Try.func133, by kernel_rfl, by kernel_rfl⟩
theorem good_impl_order_meetTable : Gx.Good Try.prog 133 S_impl_order_meetTable := good_of_run Try.func133 (of_decide_eq_true (by kernel_rfl)) fun x r h => ⟨A_impl_order_meetTable, big, mkCfg_ok tabOk, mkCfg_sigs (show SigsOk Try.prog [(135, S_impl_order_those_k_order_meetTable_c1), (151, S_impl_order_greatest)] from ⟨⟨fn_impl_order_those_k_order_meetTable_c1, good_impl_order_those_k_order_meetTable_c1⟩, ⟨fn_impl_order_greatest, good_impl_order_greatest⟩, trivial⟩), (run_impl_order_meetTable big x).trans h⟩

/-! impl_order_dual -/
def impl_order_dual_b6 (rec : (List (List Bool)) → (List (List Bool)) → Int → Int → Int → Int → Int → Option ((List (List Bool)) × Unit)) (k : (List (List Bool)) → (List (List Bool)) → Int → Int → Option ((List (List Bool)) × Unit)) (o0 : (List (List Bool))) (d3 : (List (List Bool))) (x4 : Int) (t10 : Int) (t11 : Int) (t15 : Int) (t16 : Int) : Option ((List (List Bool)) × Unit) :=
  cond (decide (t16 < t15))
  ((atI d3 x4).bind fun _ =>
  (d3[x4.toNat]?).bind fun xq2 =>
  (atI o0 t16).bind fun xq3 =>
  (atI xq3 x4).bind fun xq4 =>
  (d3[x4.toNat]?).bind fun xq5 =>
  (atI xq5 t16).bind fun _ =>
  (d3[x4.toNat]?).bind fun xq6 =>
  (xq6[t16.toNat]?).bind fun xq7 =>
  rec o0 (d3.set x4.toNat (xq6.set t16.toNat xq4)) x4 t10 t11 t15 (IntKind.i64.wrap (t16 + (1 : Int))))
  (k o0 d3 t10 t11)
def impl_order_dual_a6 (rec : (List (List Bool)) → (List (List Bool)) → Int → Int → Option ((List (List Bool)) × Unit)) (o0 : (List (List Bool))) (d3 : (List (List Bool))) (t10 : Int) (t11 : Int) : Option ((List (List Bool)) × Unit) :=
  rec o0 d3 t10 (IntKind.i64.wrap (t11 + (1 : Int)))
def impl_order_dual_b3 (L6 : (List (List Bool)) → (List (List Bool)) → Int → Int → Int → Int → Int → Option ((List (List Bool)) × Unit)) (k : (List (List Bool)) → Option ((List (List Bool)) × Unit)) (o0 : (List (List Bool))) (d3 : (List (List Bool))) (t10 : Int) (t11 : Int) : Option ((List (List Bool)) × Unit) :=
  cond (decide (t11 < t10))
  (L6 o0 d3 t11 t10 t11 (o0.length : Int) (0 : Int))
  (k d3)
def impl_order_dual_a3 (d3 : (List (List Bool))) : Option ((List (List Bool)) × Unit) :=
  some (d3, (()))
def impl_order_dual_s (L3 : (List (List Bool)) → (List (List Bool)) → Int → Int → Option ((List (List Bool)) × Unit)) (o_0 : (List (List Bool))) : Option ((List (List Bool)) × Unit) :=
  (impl_newOrder big (o_0.length : Int)).bind fun rq1 =>
  L3 o_0 rq1.1 (o_0.length : Int) (0 : Int)
def impl_order_dual_l6 (N : Nat) (k : (List (List Bool)) → (List (List Bool)) → Int → Int → Option ((List (List Bool)) × Unit)) : Nat → (List (List Bool)) → (List (List Bool)) → Int → Int → Int → Int → Int → Option ((List (List Bool)) × Unit)
  | 0, _, _, _, _, _, _, _ => none
  | m + 1, o0, d3, x4, t10, t11, t15, t16 => impl_order_dual_b6 (impl_order_dual_l6 N k m) k o0 d3 x4 t10 t11 t15 t16
def impl_order_dual_F6 (N : Nat) (rec : (List (List Bool)) → (List (List Bool)) → Int → Int → Option ((List (List Bool)) × Unit)) (k : (List (List Bool)) → Option ((List (List Bool)) × Unit)) (o0 : (List (List Bool))) (d3 : (List (List Bool))) (x4 : Int) (t10 : Int) (t11 : Int) (t15 : Int) (t16 : Int) : Option ((List (List Bool)) × Unit) := impl_order_dual_l6 N (impl_order_dual_a6 rec) N o0 d3 x4 t10 t11 t15 t16
def impl_order_dual_l3 (N : Nat) (k : (List (List Bool)) → Option ((List (List Bool)) × Unit)) : Nat → (List (List Bool)) → (List (List Bool)) → Int → Int → Option ((List (List Bool)) × Unit)
  | 0, _, _, _, _ => none
  | m + 1, o0, d3, t10, t11 => impl_order_dual_b3 (impl_order_dual_F6 N (impl_order_dual_l3 N k m) k) k o0 d3 t10 t11
def impl_order_dual_F3 (N : Nat) (o0 : (List (List Bool))) (d3 : (List (List Bool))) (t10 : Int) (t11 : Int) : Option ((List (List Bool)) × Unit) := impl_order_dual_l3 N (impl_order_dual_a3) N o0 d3 t10 t11
def impl_order_dual (N : Nat) (o_0 : (List (List Bool))) : Option ((List (List Bool)) × Unit) := impl_order_dual_s (impl_order_dual_F3 N) o_0
def S_impl_order_dual : Sig := { a := (.pair (.sl (.sl .bool)) .unit), md := [0], mf := [], m := .unit, r := (.sl (.sl .bool)), rf := (.o (.o .i)), f := fun x => impl_order_dual big x.1 }
def A_impl_order_dual : Cfg := mkCfg tab [(61, S_impl_newOrder)] [(6, [.as (.sl (.sl .bool)) .i, .drop, .drop, .as (.sl (.sl .bool)) (.o (.o .i)), .drop, .drop, .drop, .drop, .drop, .drop, .as I .i, .as I .i]), (12, [.as (.sl (.sl .bool)) .i, .drop, .drop, .as (.sl (.sl .bool)) (.o (.o .i)), .as I .i, .drop, .drop, .drop, .drop, .drop, .as I .i, .as I .i, .drop, .drop, .drop, .as I .i, .as I .i]), (23, [.drop, .drop, .drop, .as (.sl (.sl .bool)) (.o (.o .i))]), (21, [.as (.sl (.sl .bool)) .i, .drop, .drop, .as (.sl (.sl .bool)) (.o (.o .i)), .drop, .drop, .drop, .drop, .drop, .drop, .as I .i, .as I .i])]
def impl_order_dual_R3 (cd : Code) (N n : Nat) (K : Ex → St → Option ((List (List Bool)) × Unit)) (o0 : (List (List Bool))) (d3 : (List (List Bool))) (t10 : Int) (t11 : Int) : Option ((List (List Bool)) × Unit) := iter ((A_impl_order_dual).shape 6) (run (A_impl_order_dual) N cd) n ([.val (.sl (.sl .bool)) .i o0, .u, .u, .val (.sl (.sl .bool)) (.o (.o .i)) d3, .u, .u, .u, .u, .u, .u, .val I .i t10, .val I .i t11] ++ List.replicate 23 .u) K
def impl_order_dual_R6 (cd : Code) (N n : Nat) (K : Ex → St → Option ((List (List Bool)) × Unit)) (o0 : (List (List Bool))) (d3 : (List (List Bool))) (x4 : Int) (t10 : Int) (t11 : Int) (t15 : Int) (t16 : Int) : Option ((List (List Bool)) × Unit) := iter ((A_impl_order_dual).shape 12) (run (A_impl_order_dual) N cd) n ([.val (.sl (.sl .bool)) .i o0, .u, .u, .val (.sl (.sl .bool)) (.o (.o .i)) d3, .val I .i x4, .u, .u, .u, .u, .u, .val I .i t10, .val I .i t11, .u, .u, .u, .val I .i t15, .val I .i t16] ++ List.replicate 18 .u) K
theorem impl_order_dual_step6 (N : Nat) (m : Nat) (kX : St → Option ((List (List Bool)) × Unit)) (kO : Nat → St → Option ((List (List Bool)) × Unit)) (o0 : (List (List Bool))) (d3 : (List (List Bool))) (x4 : Int) (t10 : Int) (t11 : Int) (t15 : Int) (t16 : Int) : impl_order_dual_R6 (codeAt Try.f134 [1, 1, 0, 1, 0, 0, 1, 1, 0, 0, 1, 1, 0, 0]) N (m + 1) (exK (finish (A_impl_order_dual) S_impl_order_dual Try.f134.results.toList) 2 ((A_impl_order_dual).shape 21) kX kO) o0 d3 x4 t10 t11 t15 t16 = impl_order_dual_b6 (impl_order_dual_R6 (codeAt Try.f134 [1, 1, 0, 1, 0, 0, 1, 1, 0, 0, 1, 1, 0, 0]) N m (exK (finish (A_impl_order_dual) S_impl_order_dual Try.f134.results.toList) 2 ((A_impl_order_dual).shape 21) kX kO)) (fun (o0 : (List (List Bool))) (d3 : (List (List Bool))) (t10 : Int) (t11 : Int) => kX ([.val (.sl (.sl .bool)) .i o0, .u, .u, .val (.sl (.sl .bool)) (.o (.o .i)) d3, .u, .u, .u, .u, .u, .u, .val I .i t10, .val I .i t11] ++ List.replicate 23 .u)) o0 d3 x4 t10 t11 t15 t16 := by kernel_rfl
theorem impl_order_dual_iter6 (N : Nat) (kX : St → Option ((List (List Bool)) × Unit)) (kO : Nat → St → Option ((List (List Bool)) × Unit)) : ∀ (n : Nat) (o0 : (List (List Bool))) (d3 : (List (List Bool))) (x4 : Int) (t10 : Int) (t11 : Int) (t15 : Int) (t16 : Int), impl_order_dual_R6 (codeAt Try.f134 [1, 1, 0, 1, 0, 0, 1, 1, 0, 0, 1, 1, 0, 0]) N n (exK (finish (A_impl_order_dual) S_impl_order_dual Try.f134.results.toList) 2 ((A_impl_order_dual).shape 21) kX kO) o0 d3 x4 t10 t11 t15 t16 = impl_order_dual_l6 N (fun (o0 : (List (List Bool))) (d3 : (List (List Bool))) (t10 : Int) (t11 : Int) => kX ([.val (.sl (.sl .bool)) .i o0, .u, .u, .val (.sl (.sl .bool)) (.o (.o .i)) d3, .u, .u, .u, .u, .u, .u, .val I .i t10, .val I .i t11] ++ List.replicate 23 .u)) n o0 d3 x4 t10 t11 t15 t16
  | 0, _, _, _, _, _, _, _ => rfl
  | m + 1, o0, d3, x4, t10, t11, t15, t16 => by
    have hrec : impl_order_dual_R6 (codeAt Try.f134 [1, 1, 0, 1, 0, 0, 1, 1, 0, 0, 1, 1, 0, 0]) N m (exK (finish (A_impl_order_dual) S_impl_order_dual Try.f134.results.toList) 2 ((A_impl_order_dual).shape 21) kX kO) = (impl_order_dual_l6 N (fun (o0 : (List (List Bool))) (d3 : (List (List Bool))) (t10 : Int) (t11 : Int) => kX ([.val (.sl (.sl .bool)) .i o0, .u, .u, .val (.sl (.sl .bool)) (.o (.o .i)) d3, .u, .u, .u, .u, .u, .u, .val I .i t10, .val I .i t11] ++ List.replicate 23 .u)) m) := (funext fun o0 => (funext fun d3 => (funext fun x4 => (funext fun t10 => (funext fun t11 => (funext fun t15 => (funext fun t16 => impl_order_dual_iter6 N kX kO m o0 d3 x4 t10 t11 t15 t16)))))))
    refine (impl_order_dual_step6 N m kX kO o0 d3 x4 t10 t11 t15 t16).trans ?_
    rw [hrec]
    rfl
theorem impl_order_dual_after6 (N : Nat) (m : Nat) (kX : St → Option ((List (List Bool)) × Unit)) (kO : Nat → St → Option ((List (List Bool)) × Unit)) (o0 : (List (List Bool))) (d3 : (List (List Bool))) (t10 : Int) (t11 : Int) : (fun st' => run (A_impl_order_dual) N (codeAt Try.f134 [1, 1, 0, 1, 0, 0, 1, 1, 1]) st' (iterK ((A_impl_order_dual).shape 6) (run (A_impl_order_dual) N (codeAt Try.f134 [1, 1, 0, 1, 0, 0])) m (exK (finish (A_impl_order_dual) S_impl_order_dual Try.f134.results.toList) 0 ((A_impl_order_dual).shape 23) kX kO))) ([.val (.sl (.sl .bool)) .i o0, .u, .u, .val (.sl (.sl .bool)) (.o (.o .i)) d3, .u, .u, .u, .u, .u, .u, .val I .i t10, .val I .i t11] ++ List.replicate 23 .u) = impl_order_dual_a6 (impl_order_dual_R3 (codeAt Try.f134 [1, 1, 0, 1, 0, 0]) N m (exK (finish (A_impl_order_dual) S_impl_order_dual Try.f134.results.toList) 0 ((A_impl_order_dual).shape 23) kX kO)) o0 d3 t10 t11 := by kernel_rfl
theorem impl_order_dual_in6 (N : Nat) (m : Nat) (kX : St → Option ((List (List Bool)) × Unit)) (kO : Nat → St → Option ((List (List Bool)) × Unit)) (recF : (List (List Bool)) → (List (List Bool)) → Int → Int → Option ((List (List Bool)) × Unit)) (hrec : impl_order_dual_R3 (codeAt Try.f134 [1, 1, 0, 1, 0, 0]) N m (exK (finish (A_impl_order_dual) S_impl_order_dual Try.f134.results.toList) 0 ((A_impl_order_dual).shape 23) kX kO) = recF) (o0 : (List (List Bool))) (d3 : (List (List Bool))) (x4 : Int) (t10 : Int) (t11 : Int) (t15 : Int) (t16 : Int) : impl_order_dual_R6 (codeAt Try.f134 [1, 1, 0, 1, 0, 0, 1, 1, 0, 0, 1, 1, 0, 0]) N N (blockK 2 (blockK 1 (seqK ((A_impl_order_dual).shape 21) (run (A_impl_order_dual) N (codeAt Try.f134 [1, 1, 0, 1, 0, 0, 1, 1, 1])) (iterK ((A_impl_order_dual).shape 6) (run (A_impl_order_dual) N (codeAt Try.f134 [1, 1, 0, 1, 0, 0])) m (exK (finish (A_impl_order_dual) S_impl_order_dual Try.f134.results.toList) 0 ((A_impl_order_dual).shape 23) kX kO))))) o0 d3 x4 t10 t11 t15 t16 = impl_order_dual_F6 N recF (fun (d3 : (List (List Bool))) => kX ([.u, .u, .u, .val (.sl (.sl .bool)) (.o (.o .i)) d3] ++ List.replicate 31 .u)) o0 d3 x4 t10 t11 t15 t16 :=
  have h : (fun (o0 : (List (List Bool))) (d3 : (List (List Bool))) (t10 : Int) (t11 : Int) => (fun st' => run (A_impl_order_dual) N (codeAt Try.f134 [1, 1, 0, 1, 0, 0, 1, 1, 1]) st' (iterK ((A_impl_order_dual).shape 6) (run (A_impl_order_dual) N (codeAt Try.f134 [1, 1, 0, 1, 0, 0])) m (exK (finish (A_impl_order_dual) S_impl_order_dual Try.f134.results.toList) 0 ((A_impl_order_dual).shape 23) kX kO))) ([.val (.sl (.sl .bool)) .i o0, .u, .u, .val (.sl (.sl .bool)) (.o (.o .i)) d3, .u, .u, .u, .u, .u, .u, .val I .i t10, .val I .i t11] ++ List.replicate 23 .u)) = (impl_order_dual_a6 recF) := (funext fun o0 => (funext fun d3 => (funext fun t10 => (funext fun t11 => (impl_order_dual_after6 N m kX kO o0 d3 t10 t11).trans (by rw [hrec])))))
  have e : impl_order_dual_R6 (codeAt Try.f134 [1, 1, 0, 1, 0, 0, 1, 1, 0, 0, 1, 1, 0, 0]) N N (blockK 2 (blockK 1 (seqK ((A_impl_order_dual).shape 21) (run (A_impl_order_dual) N (codeAt Try.f134 [1, 1, 0, 1, 0, 0, 1, 1, 1])) (iterK ((A_impl_order_dual).shape 6) (run (A_impl_order_dual) N (codeAt Try.f134 [1, 1, 0, 1, 0, 0])) m (exK (finish (A_impl_order_dual) S_impl_order_dual Try.f134.results.toList) 0 ((A_impl_order_dual).shape 23) kX kO))))) o0 d3 x4 t10 t11 t15 t16 = impl_order_dual_R6 (codeAt Try.f134 [1, 1, 0, 1, 0, 0, 1, 1, 0, 0, 1, 1, 0, 0]) N N (exK (finish (A_impl_order_dual) S_impl_order_dual Try.f134.results.toList) 2 ((A_impl_order_dual).shape 21) (fun st' => run (A_impl_order_dual) N (codeAt Try.f134 [1, 1, 0, 1, 0, 0, 1, 1, 1]) st' (iterK ((A_impl_order_dual).shape 6) (run (A_impl_order_dual) N (codeAt Try.f134 [1, 1, 0, 1, 0, 0])) m (exK (finish (A_impl_order_dual) S_impl_order_dual Try.f134.results.toList) 0 ((A_impl_order_dual).shape 23) kX kO))) (fun j st => (blockK 2 (blockK 1 (seqK ((A_impl_order_dual).shape 21) (run (A_impl_order_dual) N (codeAt Try.f134 [1, 1, 0, 1, 0, 0, 1, 1, 1])) (iterK ((A_impl_order_dual).shape 6) (run (A_impl_order_dual) N (codeAt Try.f134 [1, 1, 0, 1, 0, 0])) m (exK (finish (A_impl_order_dual) S_impl_order_dual Try.f134.results.toList) 0 ((A_impl_order_dual).shape 23) kX kO))))) (.exit j) st)) o0 d3 x4 t10 t11 t15 t16 := iter_ex (fun st => by kernel_rfl) (fun st => by kernel_rfl)
  (e.trans (impl_order_dual_iter6 N (fun st' => run (A_impl_order_dual) N (codeAt Try.f134 [1, 1, 0, 1, 0, 0, 1, 1, 1]) st' (iterK ((A_impl_order_dual).shape 6) (run (A_impl_order_dual) N (codeAt Try.f134 [1, 1, 0, 1, 0, 0])) m (exK (finish (A_impl_order_dual) S_impl_order_dual Try.f134.results.toList) 0 ((A_impl_order_dual).shape 23) kX kO))) (fun j st => (blockK 2 (blockK 1 (seqK ((A_impl_order_dual).shape 21) (run (A_impl_order_dual) N (codeAt Try.f134 [1, 1, 0, 1, 0, 0, 1, 1, 1])) (iterK ((A_impl_order_dual).shape 6) (run (A_impl_order_dual) N (codeAt Try.f134 [1, 1, 0, 1, 0, 0])) m (exK (finish (A_impl_order_dual) S_impl_order_dual Try.f134.results.toList) 0 ((A_impl_order_dual).shape 23) kX kO))))) (.exit j) st) N o0 d3 x4 t10 t11 t15 t16)).trans (congrArg (fun k => impl_order_dual_l6 N k N o0 d3 x4 t10 t11 t15 t16) h)
theorem impl_order_dual_step3 (N : Nat) (m : Nat) (kX : St → Option ((List (List Bool)) × Unit)) (kO : Nat → St → Option ((List (List Bool)) × Unit)) (o0 : (List (List Bool))) (d3 : (List (List Bool))) (t10 : Int) (t11 : Int) : impl_order_dual_R3 (codeAt Try.f134 [1, 1, 0, 1, 0, 0]) N (m + 1) (exK (finish (A_impl_order_dual) S_impl_order_dual Try.f134.results.toList) 0 ((A_impl_order_dual).shape 23) kX kO) o0 d3 t10 t11 = impl_order_dual_b3 (impl_order_dual_R6 (codeAt Try.f134 [1, 1, 0, 1, 0, 0, 1, 1, 0, 0, 1, 1, 0, 0]) N N (blockK 2 (blockK 1 (seqK ((A_impl_order_dual).shape 21) (run (A_impl_order_dual) N (codeAt Try.f134 [1, 1, 0, 1, 0, 0, 1, 1, 1])) (iterK ((A_impl_order_dual).shape 6) (run (A_impl_order_dual) N (codeAt Try.f134 [1, 1, 0, 1, 0, 0])) m (exK (finish (A_impl_order_dual) S_impl_order_dual Try.f134.results.toList) 0 ((A_impl_order_dual).shape 23) kX kO)))))) (fun (d3 : (List (List Bool))) => kX ([.u, .u, .u, .val (.sl (.sl .bool)) (.o (.o .i)) d3] ++ List.replicate 31 .u)) o0 d3 t10 t11 := by kernel_rfl
theorem impl_order_dual_iter3 (N : Nat) (kX : St → Option ((List (List Bool)) × Unit)) (kO : Nat → St → Option ((List (List Bool)) × Unit)) : ∀ (n : Nat) (o0 : (List (List Bool))) (d3 : (List (List Bool))) (t10 : Int) (t11 : Int), impl_order_dual_R3 (codeAt Try.f134 [1, 1, 0, 1, 0, 0]) N n (exK (finish (A_impl_order_dual) S_impl_order_dual Try.f134.results.toList) 0 ((A_impl_order_dual).shape 23) kX kO) o0 d3 t10 t11 = impl_order_dual_l3 N (fun (d3 : (List (List Bool))) => kX ([.u, .u, .u, .val (.sl (.sl .bool)) (.o (.o .i)) d3] ++ List.replicate 31 .u)) n o0 d3 t10 t11
  | 0, _, _, _, _ => rfl
  | m + 1, o0, d3, t10, t11 => by
    have hrec : impl_order_dual_R3 (codeAt Try.f134 [1, 1, 0, 1, 0, 0]) N m (exK (finish (A_impl_order_dual) S_impl_order_dual Try.f134.results.toList) 0 ((A_impl_order_dual).shape 23) kX kO) = (impl_order_dual_l3 N (fun (d3 : (List (List Bool))) => kX ([.u, .u, .u, .val (.sl (.sl .bool)) (.o (.o .i)) d3] ++ List.replicate 31 .u)) m) := (funext fun o0 => (funext fun d3 => (funext fun t10 => (funext fun t11 => impl_order_dual_iter3 N kX kO m o0 d3 t10 t11))))
    refine (impl_order_dual_step3 N m kX kO o0 d3 t10 t11).trans ?_
    rw [(funext fun o0 => (funext fun d3 => (funext fun x4 => (funext fun t10 => (funext fun t11 => (funext fun t15 => (funext fun t16 => impl_order_dual_in6 N m kX kO (impl_order_dual_l3 N (fun (d3 : (List (List Bool))) => kX ([.u, .u, .u, .val (.sl (.sl .bool)) (.o (.o .i)) d3] ++ List.replicate 31 .u)) m) hrec o0 d3 x4 t10 t11 t15 t16)))))))]
    rfl
theorem impl_order_dual_after3 (N : Nat) (d3 : (List (List Bool))) : (fun st' => run (A_impl_order_dual) N (codeAt Try.f134 [1, 1, 1]) st' (finish (A_impl_order_dual) S_impl_order_dual Try.f134.results.toList)) ([.u, .u, .u, .val (.sl (.sl .bool)) (.o (.o .i)) d3] ++ List.replicate 31 .u) = impl_order_dual_a3 d3 := by kernel_rfl
theorem impl_order_dual_in3 (N : Nat) (o0 : (List (List Bool))) (d3 : (List (List Bool))) (t10 : Int) (t11 : Int) : impl_order_dual_R3 (codeAt Try.f134 [1, 1, 0, 1, 0, 0]) N N (blockK 0 (seqK ((A_impl_order_dual).shape 23) (run (A_impl_order_dual) N (codeAt Try.f134 [1, 1, 1])) (finish (A_impl_order_dual) S_impl_order_dual Try.f134.results.toList))) o0 d3 t10 t11 = impl_order_dual_F3 N o0 d3 t10 t11 :=
  have h : (fun (d3 : (List (List Bool))) => (fun st' => run (A_impl_order_dual) N (codeAt Try.f134 [1, 1, 1]) st' (finish (A_impl_order_dual) S_impl_order_dual Try.f134.results.toList)) ([.u, .u, .u, .val (.sl (.sl .bool)) (.o (.o .i)) d3] ++ List.replicate 31 .u)) = (impl_order_dual_a3) := (funext fun d3 => impl_order_dual_after3 N d3)
  have e : impl_order_dual_R3 (codeAt Try.f134 [1, 1, 0, 1, 0, 0]) N N (blockK 0 (seqK ((A_impl_order_dual).shape 23) (run (A_impl_order_dual) N (codeAt Try.f134 [1, 1, 1])) (finish (A_impl_order_dual) S_impl_order_dual Try.f134.results.toList))) o0 d3 t10 t11 = impl_order_dual_R3 (codeAt Try.f134 [1, 1, 0, 1, 0, 0]) N N (exK (finish (A_impl_order_dual) S_impl_order_dual Try.f134.results.toList) 0 ((A_impl_order_dual).shape 23) (fun st' => run (A_impl_order_dual) N (codeAt Try.f134 [1, 1, 1]) st' (finish (A_impl_order_dual) S_impl_order_dual Try.f134.results.toList)) (fun j st => (blockK 0 (seqK ((A_impl_order_dual).shape 23) (run (A_impl_order_dual) N (codeAt Try.f134 [1, 1, 1])) (finish (A_impl_order_dual) S_impl_order_dual Try.f134.results.toList))) (.exit j) st)) o0 d3 t10 t11 := iter_ex (fun st => by kernel_rfl) (fun st => by kernel_rfl)
  (e.trans (impl_order_dual_iter3 N (fun st' => run (A_impl_order_dual) N (codeAt Try.f134 [1, 1, 1]) st' (finish (A_impl_order_dual) S_impl_order_dual Try.f134.results.toList)) (fun j st => (blockK 0 (seqK ((A_impl_order_dual).shape 23) (run (A_impl_order_dual) N (codeAt Try.f134 [1, 1, 1])) (finish (A_impl_order_dual) S_impl_order_dual Try.f134.results.toList))) (.exit j) st) N o0 d3 t10 t11)).trans (congrArg (fun k => impl_order_dual_l3 N k N o0 d3 t10 t11) h)
theorem run0_impl_order_dual (N : Nat) (x : (S_impl_order_dual).a.den) : runF (A_impl_order_dual) N Try.f134 S_impl_order_dual x = (impl_order_dual_s (impl_order_dual_R3 (codeAt Try.f134 [1, 1, 0, 1, 0, 0]) N N (blockK 0 (seqK ((A_impl_order_dual).shape 23) (run (A_impl_order_dual) N (codeAt Try.f134 [1, 1, 1])) (finish (A_impl_order_dual) S_impl_order_dual Try.f134.results.toList)))) x.1) := by kernel_rfl
theorem run_impl_order_dual (N : Nat) (x : (S_impl_order_dual).a.den) : runF (A_impl_order_dual) N Try.f134 S_impl_order_dual x = impl_order_dual N x.1 := by
  refine (run0_impl_order_dual N x).trans ?_
  rw [(funext fun o0 => (funext fun d3 => (funext fun t10 => (funext fun t11 => impl_order_dual_in3 N o0 d3 t10 t11))))]
  rfl
theorem fn_impl_order_dual : FnOk Try.prog 134 := ⟨_, Try.func134, by kernel_rfl, by kernel_rfl⟩
theorem good_impl_order_dual : Gx.Good Try.prog 134 S_impl_order_dual := good_of_run Try.func134 (of_decide_eq_true (by kernel_rfl)) fun x r h => ⟨A_impl_order_dual, big, mkCfg_ok tabOk, mkCfg_sigs (show SigsOk Try.prog [(61, S_impl_newOrder)] from ⟨⟨fn_impl_newOrder, good_impl_newOrder⟩, trivial⟩), (run_impl_order_dual big x).trans h⟩

/-! impl_latticeOf -/
def impl_latticeOf_s (p_0 : ((List (List Int)) × Unit)) : Option (((Option ((List (List Bool)) × ((List (List Int)) × ((List (List Int)) × Unit)))) × (Bool × Unit)) × Unit) :=
  (impl_orderOf big p_0).bind fun rq1 =>
  cond (!((((), rq1.1.2).2).1))
  (some ((none, false, ()), (())))
  (cond (decide ((rq1.1.1.length : Int) = (0 : Int)))
  (some ((none, false, ()), (())))
  ((impl_order_meetTable big rq1.1.1).bind fun rq2 =>
  (impl_order_dual big rq1.1.1).bind fun rq3 =>
  (impl_order_meetTable big rq3.1).bind fun rq4 =>
  cond ((((), rq2.1.2).2).1)
  (some ((some (rq1.1.1, (rq2.1.1, (rq4.1.1, ()))), (((), rq4.1.2).2).1, ()), (())))
  (some ((some (rq1.1.1, (rq2.1.1, (rq4.1.1, ()))), false, ()), (())))))
def impl_latticeOf (p_0 : ((List (List Int)) × Unit)) : Option (((Option ((List (List Bool)) × ((List (List Int)) × ((List (List Int)) × Unit)))) × (Bool × Unit)) × Unit) := impl_latticeOf_s p_0
def S_impl_latticeOf : Sig := { a := (.pair (.pair (.sl (.sl I)) .unit) .unit), md := [0], mf := [], m := .unit, r := (.tup (.pair (.opt (.pair (.sl (.sl .bool)) (.pair (.sl (.sl I)) (.pair (.sl (.sl I)) .unit)))) (.pair .bool .unit))), rf := .i, f := fun x => impl_latticeOf x.1 }
def A_impl_latticeOf : Cfg := mkCfg tab [(129, S_impl_orderOf), (133, S_impl_order_meetTable), (134, S_impl_order_dual)] []
theorem run_impl_latticeOf (N : Nat) (x : (S_impl_latticeOf).a.den) : runF (A_impl_latticeOf) N Try.f91 S_impl_latticeOf x = impl_latticeOf x.1 := by kernel_rfl
theorem fn_impl_latticeOf : FnOk Try.prog 91 := ⟨_, Try.func91, by kernel_rfl, by kernel_rfl⟩
theorem good_impl_latticeOf : Gx.Good Try.prog 91 S_impl_latticeOf := good_of_run Try.func91 (of_decide_eq_true (by kernel_rfl)) fun x r h => ⟨A_impl_latticeOf, big, mkCfg_ok tabOk, mkCfg_sigs (show SigsOk Try.prog [(129, S_impl_orderOf), (133, S_impl_order_meetTable), (134, S_impl_order_dual)] from ⟨⟨fn_impl_orderOf, good_impl_orderOf⟩, ⟨fn_impl_order_meetTable, good_impl_order_meetTable⟩, ⟨fn_impl_order_dual, good_impl_order_dual⟩, trivial⟩), (run_impl_latticeOf big x).trans h⟩

/-! impl_order_has -/
def impl_order_has_s (o_0 : (List (List Bool))) (list_1 : (List Int)) : Option (Bool × Unit) :=
  (impl_inSize big list_1 (o_0.length : Int)).bind fun rq1 =>
  some (rq1.1, (()))
def impl_order_has (o_0 : (List (List Bool))) (list_1 : (List Int)) : Option (Bool × Unit) := impl_order_has_s o_0 list_1
def S_impl_order_has : Sig := { a := (.pair (.sl (.sl .bool)) (.pair (.sl I) .unit)), md := [0, 0], mf := [], m := .unit, r := .bool, rf := .i, f := fun x => impl_order_has x.1 x.2.1 }
def A_impl_order_has : Cfg := mkCfg tab [(123, S_impl_inSize)] []
theorem run_impl_order_has (N : Nat) (x : (S_impl_order_has).a.den) : runF (A_impl_order_has) N Try.f92 S_impl_order_has x = impl_order_has x.1 x.2.1 := by kernel_rfl
theorem fn_impl_order_has : FnOk Try.prog 92 := ⟨_, Try.func92, by kernel_rfl, by kernel_rfl⟩
theorem good_impl_order_has : Gx.Good Try.prog 92 S_impl_order_has := good_of_run Try.func92 (of_decide_eq_true (by kernel_rfl)) fun x r h => ⟨A_impl_order_has, big, mkCfg_ok tabOk, mkCfg_sigs (show SigsOk Try.prog [(123, S_impl_inSize)] from ⟨⟨fn_impl_inSize, good_impl_inSize⟩, trivial⟩), (run_impl_order_has big x).trans h⟩

/-! impl_lattice_top -/
def impl_lattice_top_b3 (rec : (Option ((List (List Bool)) × ((List (List Int)) × ((List (List Int)) × Unit)))) → Int → Int → Int → Option (Int × Unit)) (k : Int → Option (Int × Unit)) (l0 : (Option ((List (List Bool)) × ((List (List Int)) × ((List (List Int)) × Unit))))) (t3 : Int) (t9 : Int) (t10 : Int) : Option (Int × Unit) :=
  cond (decide (t10 < t9))
  ((l0).bind fun xq2 =>
  (atI xq2.2.2.1 t3).bind fun xq3 =>
  (atI xq3 t10).bind fun xq4 =>
  rec l0 xq4 t9 (IntKind.i64.wrap (t10 + (1 : Int))))
  (k t3)
def impl_lattice_top_a3 (t3 : Int) : Option (Int × Unit) :=
  some (t3, (()))
def impl_lattice_top_s (L3 : (Option ((List (List Bool)) × ((List (List Int)) × ((List (List Int)) × Unit)))) → Int → Int → Int → Option (Int × Unit)) (l_0 : (Option ((List (List Bool)) × ((List (List Int)) × ((List (List Int)) × Unit))))) : Option (Int × Unit) :=
  (l_0).bind fun xq1 =>
  L3 l_0 (0 : Int) (xq1.1.length : Int) (0 : Int)
def impl_lattice_top_l3 (N : Nat) (k : Int → Option (Int × Unit)) : Nat → (Option ((List (List Bool)) × ((List (List Int)) × ((List (List Int)) × Unit)))) → Int → Int → Int → Option (Int × Unit)
  | 0, _, _, _, _ => none
  | m + 1, l0, t3, t9, t10 => impl_lattice_top_b3 (impl_lattice_top_l3 N k m) k l0 t3 t9 t10
def impl_lattice_top_F3 (N : Nat) (l0 : (Option ((List (List Bool)) × ((List (List Int)) × ((List (List Int)) × Unit))))) (t3 : Int) (t9 : Int) (t10 : Int) : Option (Int × Unit) := impl_lattice_top_l3 N (impl_lattice_top_a3) N l0 t3 t9 t10
def impl_lattice_top (N : Nat) (l_0 : (Option ((List (List Bool)) × ((List (List Int)) × ((List (List Int)) × Unit))))) : Option (Int × Unit) := impl_lattice_top_s (impl_lattice_top_F3 N) l_0
def S_impl_lattice_top : Sig := { a := (.pair (.opt (.pair (.sl (.sl .bool)) (.pair (.sl (.sl I)) (.pair (.sl (.sl I)) .unit)))) .unit), md := [0], mf := [], m := .unit, r := I, rf := .i, f := fun x => impl_lattice_top big x.1 }
def A_impl_lattice_top : Cfg := mkCfg tab [] [(6, [.as (.opt (.pair (.sl (.sl .bool)) (.pair (.sl (.sl I)) (.pair (.sl (.sl I)) .unit)))) .i, .drop, .drop, .as I .i, .drop, .drop, .drop, .drop, .drop, .as I .i, .as I .i]), (15, [.drop, .drop, .drop, .as I .i])]
def impl_lattice_top_R3 (cd : Code) (N n : Nat) (K : Ex → St → Option (Int × Unit)) (l0 : (Option ((List (List Bool)) × ((List (List Int)) × ((List (List Int)) × Unit))))) (t3 : Int) (t9 : Int) (t10 : Int) : Option (Int × Unit) := iter ((A_impl_lattice_top).shape 6) (run (A_impl_lattice_top) N cd) n ([.val (.opt (.pair (.sl (.sl .bool)) (.pair (.sl (.sl I)) (.pair (.sl (.sl I)) .unit)))) .i l0, .u, .u, .val I .i t3, .u, .u, .u, .u, .u, .val I .i t9, .val I .i t10] ++ List.replicate 14 .u) K
theorem impl_lattice_top_step3 (N : Nat) (m : Nat) (kX : St → Option (Int × Unit)) (kO : Nat → St → Option (Int × Unit)) (l0 : (Option ((List (List Bool)) × ((List (List Int)) × ((List (List Int)) × Unit))))) (t3 : Int) (t9 : Int) (t10 : Int) : impl_lattice_top_R3 (codeAt Try.f137 [1, 1, 0, 1, 0, 0]) N (m + 1) (exK (finish (A_impl_lattice_top) S_impl_lattice_top Try.f137.results.toList) 0 ((A_impl_lattice_top).shape 15) kX kO) l0 t3 t9 t10 = impl_lattice_top_b3 (impl_lattice_top_R3 (codeAt Try.f137 [1, 1, 0, 1, 0, 0]) N m (exK (finish (A_impl_lattice_top) S_impl_lattice_top Try.f137.results.toList) 0 ((A_impl_lattice_top).shape 15) kX kO)) (fun (t3 : Int) => kX ([.u, .u, .u, .val I .i t3] ++ List.replicate 21 .u)) l0 t3 t9 t10 := by kernel_rfl
theorem impl_lattice_top_iter3 (N : Nat) (kX : St → Option (Int × Unit)) (kO : Nat → St → Option (Int × Unit)) : ∀ (n : Nat) (l0 : (Option ((List (List Bool)) × ((List (List Int)) × ((List (List Int)) × Unit))))) (t3 : Int) (t9 : Int) (t10 : Int), impl_lattice_top_R3 (codeAt Try.f137 [1, 1, 0, 1, 0, 0]) N n (exK (finish (A_impl_lattice_top) S_impl_lattice_top Try.f137.results.toList) 0 ((A_impl_lattice_top).shape 15) kX kO) l0 t3 t9 t10 = impl_lattice_top_l3 N (fun (t3 : Int) => kX ([.u, .u, .u, .val I .i t3] ++ List.replicate 21 .u)) n l0 t3 t9 t10
  | 0, _, _, _, _ => rfl
  | m + 1, l0, t3, t9, t10 => by
    have hrec : impl_lattice_top_R3 (codeAt Try.f137 [1, 1, 0, 1, 0, 0]) N m (exK (finish (A_impl_lattice_top) S_impl_lattice_top Try.f137.results.toList) 0 ((A_impl_lattice_top).shape 15) kX kO) = (impl_lattice_top_l3 N (fun (t3 : Int) => kX ([.u, .u, .u, .val I .i t3] ++ List.replicate 21 .u)) m) := (funext fun l0 => (funext fun t3 => (funext fun t9 => (funext fun t10 => impl_lattice_top_iter3 N kX kO m l0 t3 t9 t10))))
    refine (impl_lattice_top_step3 N m kX kO l0 t3 t9 t10).trans ?_
    rw [hrec]
    rfl
theorem impl_lattice_top_after3 (N : Nat) (t3 : Int) : (fun st' => run (A_impl_lattice_top) N (codeAt Try.f137 [1, 1, 1]) st' (finish (A_impl_lattice_top) S_impl_lattice_top Try.f137.results.toList)) ([.u, .u, .u, .val I .i t3] ++ List.replicate 21 .u) = impl_lattice_top_a3 t3 := by kernel_rfl
theorem impl_lattice_top_in3 (N : Nat) (l0 : (Option ((List (List Bool)) × ((List (List Int)) × ((List (List Int)) × Unit))))) (t3 : Int) (t9 : Int) (t10 : Int) : impl_lattice_top_R3 (codeAt Try.f137 [1, 1, 0, 1, 0, 0]) N N (blockK 0 (seqK ((A_impl_lattice_top).shape 15) (run (A_impl_lattice_top) N (codeAt Try.f137 [1, 1, 1])) (finish (A_impl_lattice_top) S_impl_lattice_top Try.f137.results.toList))) l0 t3 t9 t10 = impl_lattice_top_F3 N l0 t3 t9 t10 :=
  have h : (fun (t3 : Int) => (fun st' => run (A_impl_lattice_top) N (codeAt Try.f137 [1, 1, 1]) st' (finish (A_impl_lattice_top) S_impl_lattice_top Try.f137.results.toList)) ([.u, .u, .u, .val I .i t3] ++ List.replicate 21 .u)) = (impl_lattice_top_a3) := (funext fun t3 => impl_lattice_top_after3 N t3)
  have e : impl_lattice_top_R3 (codeAt Try.f137 [1, 1, 0, 1, 0, 0]) N N (blockK 0 (seqK ((A_impl_lattice_top).shape 15) (run (A_impl_lattice_top) N (codeAt Try.f137 [1, 1, 1])) (finish (A_impl_lattice_top) S_impl_lattice_top Try.f137.results.toList))) l0 t3 t9 t10 = impl_lattice_top_R3 (codeAt Try.f137 [1, 1, 0, 1, 0, 0]) N N (exK (finish (A_impl_lattice_top) S_impl_lattice_top Try.f137.results.toList) 0 ((A_impl_lattice_top).shape 15) (fun st' => run (A_impl_lattice_top) N (codeAt Try.f137 [1, 1, 1]) st' (finish (A_impl_lattice_top) S_impl_lattice_top Try.f137.results.toList)) (fun j st => (blockK 0 (seqK ((A_impl_lattice_top).shape 15) (run (A_impl_lattice_top) N (codeAt Try.f137 [1, 1, 1])) (finish (A_impl_lattice_top) S_impl_lattice_top Try.f137.results.toList))) (.exit j) st)) l0 t3 t9 t10 := iter_ex (fun st => by kernel_rfl) (fun st => by kernel_rfl)
  (e.trans (impl_lattice_top_iter3 N (fun st' => run (A_impl_lattice_top) N (codeAt Try.f137 [1, 1, 1]) st' (finish (A_impl_lattice_top) S_impl_lattice_top Try.f137.results.toList)) (fun j st => (blockK 0 (seqK ((A_impl_lattice_top).shape 15) (run (A_impl_lattice_top) N (codeAt Try.f137 [1, 1, 1])) (finish (A_impl_lattice_top) S_impl_lattice_top Try.f137.results.toList))) (.exit j) st) N l0 t3 t9 t10)).trans (congrArg (fun k => impl_lattice_top_l3 N k N l0 t3 t9 t10) h)
theorem run0_impl_lattice_top (N : Nat) (x : (S_impl_lattice_top).a.den) : runF (A_impl_lattice_top) N Try.f137 S_impl_lattice_top x = (impl_lattice_top_s (impl_lattice_top_R3 (codeAt Try.f137 [1, 1, 0, 1, 0, 0]) N N (blockK 0 (seqK ((A_impl_lattice_top).shape 15) (run (A_impl_lattice_top) N (codeAt Try.f137 [1, 1, 1])) (finish (A_impl_lattice_top) S_impl_lattice_top Try.f137.results.toList)))) x.1) := by kernel_rfl
theorem run_impl_lattice_top (N : Nat) (x : (S_impl_lattice_top).a.den) : runF (A_impl_lattice_top) N Try.f137 S_impl_lattice_top x = impl_lattice_top N x.1 := by
  refine (run0_impl_lattice_top N x).trans ?_
  rw [(funext fun l0 => (funext fun t3 => (funext fun t9 => (funext fun t10 => impl_lattice_top_in3 N l0 t3 t9 t10))))]
  rfl
theorem fn_impl_lattice_top : FnOk Try.prog 137 := ⟨_, Try.func137, by kernel_rfl, by kernel_rfl⟩
theorem good_impl_lattice_top : Gx.Good Try.prog 137 S_impl_lattice_top := good_of_run Try.func137 (of_decide_eq_true (by kernel_rfl)) fun x r h => ⟨A_impl_lattice_top, big, mkCfg_ok tabOk, mkCfg_sigs (show SigsOk Try.prog [] from trivial), (run_impl_lattice_top big x).trans h⟩

/-! impl_lattice_meetAll -/
def impl_lattice_meetAll_b3 (rec : (Option ((List (List Bool)) × ((List (List Int)) × ((List (List Int)) × Unit)))) → Int → (List Int) → Int → Int → Option (Int × Unit)) (k : Int → Option (Int × Unit)) (l0 : (Option ((List (List Bool)) × ((List (List Int)) × ((List (List Int)) × Unit))))) (m5 : Int) (t10 : (List Int)) (t11 : Int) (t12 : Int) : Option (Int × Unit) :=
  cond (decide (t12 < t11))
  ((atI t10 t12).bind fun xq2 =>
  (l0).bind fun xq3 =>
  (atI xq3.2.1 m5).bind fun xq4 =>
  (atI xq4 xq2).bind fun xq5 =>
  rec l0 xq5 t10 t11 (IntKind.i64.wrap (t12 + (1 : Int))))
  (k m5)
def impl_lattice_meetAll_a3 (m5 : Int) : Option (Int × Unit) :=
  some (m5, (()))
def impl_lattice_meetAll_s (L3 : (Option ((List (List Bool)) × ((List (List Int)) × ((List (List Int)) × Unit)))) → Int → (List Int) → Int → Int → Option (Int × Unit)) (l_0 : (Option ((List (List Bool)) × ((List (List Int)) × ((List (List Int)) × Unit))))) (list_1 : (List Int)) : Option (Int × Unit) :=
  (impl_lattice_top big l_0).bind fun rq1 =>
  L3 l_0 rq1.1 list_1 (list_1.length : Int) (0 : Int)
def impl_lattice_meetAll_l3 (N : Nat) (k : Int → Option (Int × Unit)) : Nat → (Option ((List (List Bool)) × ((List (List Int)) × ((List (List Int)) × Unit)))) → Int → (List Int) → Int → Int → Option (Int × Unit)
  | 0, _, _, _, _, _ => none
  | m + 1, l0, m5, t10, t11, t12 => impl_lattice_meetAll_b3 (impl_lattice_meetAll_l3 N k m) k l0 m5 t10 t11 t12
def impl_lattice_meetAll_F3 (N : Nat) (l0 : (Option ((List (List Bool)) × ((List (List Int)) × ((List (List Int)) × Unit))))) (m5 : Int) (t10 : (List Int)) (t11 : Int) (t12 : Int) : Option (Int × Unit) := impl_lattice_meetAll_l3 N (impl_lattice_meetAll_a3) N l0 m5 t10 t11 t12
def impl_lattice_meetAll (N : Nat) (l_0 : (Option ((List (List Bool)) × ((List (List Int)) × ((List (List Int)) × Unit))))) (list_1 : (List Int)) : Option (Int × Unit) := impl_lattice_meetAll_s (impl_lattice_meetAll_F3 N) l_0 list_1
def S_impl_lattice_meetAll : Sig := { a := (.pair (.opt (.pair (.sl (.sl .bool)) (.pair (.sl (.sl I)) (.pair (.sl (.sl I)) .unit)))) (.pair (.sl I) .unit)), md := [0, 0], mf := [], m := .unit, r := I, rf := .i, f := fun x => impl_lattice_meetAll big x.1 x.2.1 }
def A_impl_lattice_meetAll : Cfg := mkCfg tab [(137, S_impl_lattice_top)] [(6, [.as (.opt (.pair (.sl (.sl .bool)) (.pair (.sl (.sl I)) (.pair (.sl (.sl I)) .unit)))) .i, .drop, .drop, .drop, .drop, .as I .i, .drop, .drop, .drop, .drop, .as (.sl I) .i, .as I .i, .as I .i]), (15, [.drop, .drop, .drop, .drop, .drop, .as I .i])]
def impl_lattice_meetAll_R3 (cd : Code) (N n : Nat) (K : Ex → St → Option (Int × Unit)) (l0 : (Option ((List (List Bool)) × ((List (List Int)) × ((List (List Int)) × Unit))))) (m5 : Int) (t10 : (List Int)) (t11 : Int) (t12 : Int) : Option (Int × Unit) := iter ((A_impl_lattice_meetAll).shape 6) (run (A_impl_lattice_meetAll) N cd) n ([.val (.opt (.pair (.sl (.sl .bool)) (.pair (.sl (.sl I)) (.pair (.sl (.sl I)) .unit)))) .i l0, .u, .u, .u, .u, .val I .i m5, .u, .u, .u, .u, .val (.sl I) .i t10, .val I .i t11, .val I .i t12] ++ List.replicate 15 .u) K
theorem impl_lattice_meetAll_step3 (N : Nat) (m : Nat) (kX : St → Option (Int × Unit)) (kO : Nat → St → Option (Int × Unit)) (l0 : (Option ((List (List Bool)) × ((List (List Int)) × ((List (List Int)) × Unit))))) (m5 : Int) (t10 : (List Int)) (t11 : Int) (t12 : Int) : impl_lattice_meetAll_R3 (codeAt Try.f95 [1, 1, 0, 1, 0, 0]) N (m + 1) (exK (finish (A_impl_lattice_meetAll) S_impl_lattice_meetAll Try.f95.results.toList) 0 ((A_impl_lattice_meetAll).shape 15) kX kO) l0 m5 t10 t11 t12 = impl_lattice_meetAll_b3 (impl_lattice_meetAll_R3 (codeAt Try.f95 [1, 1, 0, 1, 0, 0]) N m (exK (finish (A_impl_lattice_meetAll) S_impl_lattice_meetAll Try.f95.results.toList) 0 ((A_impl_lattice_meetAll).shape 15) kX kO)) (fun (m5 : Int) => kX ([.u, .u, .u, .u, .u, .val I .i m5] ++ List.replicate 22 .u)) l0 m5 t10 t11 t12 := by kernel_rfl
theorem impl_lattice_meetAll_iter3 (N : Nat) (kX : St → Option (Int × Unit)) (kO : Nat → St → Option (Int × Unit)) : ∀ (n : Nat) (l0 : (Option ((List (List Bool)) × ((List (List Int)) × ((List (List Int)) × Unit))))) (m5 : Int) (t10 : (List Int)) (t11 : Int) (t12 : Int), impl_lattice_meetAll_R3 (codeAt Try.f95 [1, 1, 0, 1, 0, 0]) N n (exK (finish (A_impl_lattice_meetAll) S_impl_lattice_meetAll Try.f95.results.toList) 0 ((A_impl_lattice_meetAll).shape 15) kX kO) l0 m5 t10 t11 t12 = impl_lattice_meetAll_l3 N (fun (m5 : Int) => kX ([.u, .u, .u, .u, .u, .val I .i m5] ++ List.replicate 22 .u)) n l0 m5 t10 t11 t12
  | 0, _, _, _, _, _ => rfl
  | m + 1, l0, m5, t10, t11, t12 => by
    have hrec : impl_lattice_meetAll_R3 (codeAt Try.f95 [1, 1, 0, 1, 0, 0]) N m (exK (finish (A_impl_lattice_meetAll) S_impl_lattice_meetAll Try.f95.results.toList) 0 ((A_impl_lattice_meetAll).shape 15) kX kO) = (impl_lattice_meetAll_l3 N (fun (m5 : Int) => kX ([.u, .u, .u, .u, .u, .val I .i m5] ++ List.replicate 22 .u)) m) := (funext fun l0 => (funext fun m5 => (funext fun t10 => (funext fun t11 => (funext fun t12 => impl_lattice_meetAll_iter3 N kX kO m l0 m5 t10 t11 t12)))))
    refine (impl_lattice_meetAll_step3 N m kX kO l0 m5 t10 t11 t12).trans ?_
    rw [hrec]
    rfl
theorem impl_lattice_meetAll_after3 (N : Nat) (m5 : Int) : (fun st' => run (A_impl_lattice_meetAll) N (codeAt Try.f95 [1, 1, 1]) st' (finish (A_impl_lattice_meetAll) S_impl_lattice_meetAll Try.f95.results.toList)) ([.u, .u, .u, .u, .u, .val I .i m5] ++ List.replicate 22 .u) = impl_lattice_meetAll_a3 m5 := by kernel_rfl
theorem impl_lattice_meetAll_in3 (N : Nat) (l0 : (Option ((List (List Bool)) × ((List (List Int)) × ((List (List Int)) × Unit))))) (m5 : Int) (t10 : (List Int)) (t11 : Int) (t12 : Int) : impl_lattice_meetAll_R3 (codeAt Try.f95 [1, 1, 0, 1, 0, 0]) N N (blockK 0 (seqK ((A_impl_lattice_meetAll).shape 15) (run (A_impl_lattice_meetAll) N (codeAt Try.f95 [1, 1, 1])) (finish (A_impl_lattice_meetAll) S_impl_lattice_meetAll Try.f95.results.toList))) l0 m5 t10 t11 t12 = impl_lattice_meetAll_F3 N l0 m5 t10 t11 t12 :=
  have h : (fun (m5 : Int) => (fun st' => run (A_impl_lattice_meetAll) N (codeAt Try.f95 [1, 1, 1]) st' (finish (A_impl_lattice_meetAll) S_impl_lattice_meetAll Try.f95.results.toList)) ([.u, .u, .u, .u, .u, .val I .i m5] ++ List.replicate 22 .u)) = (impl_lattice_meetAll_a3) := (funext fun m5 => impl_lattice_meetAll_after3 N m5)
  have e : impl_lattice_meetAll_R3 (codeAt Try.f95 [1, 1, 0, 1, 0, 0]) N N (blockK 0 (seqK ((A_impl_lattice_meetAll).shape 15) (run (A_impl_lattice_meetAll) N (codeAt Try.f95 [1, 1, 1])) (finish (A_impl_lattice_meetAll) S_impl_lattice_meetAll Try.f95.results.toList))) l0 m5 t10 t11 t12 = impl_lattice_meetAll_R3 (codeAt Try.f95 [1, 1, 0, 1, 0, 0]) N N (exK (finish (A_impl_lattice_meetAll) S_impl_lattice_meetAll Try.f95.results.toList) 0 ((A_impl_lattice_meetAll).shape 15) (fun st' => run (A_impl_lattice_meetAll) N (codeAt Try.f95 [1, 1, 1]) st' (finish (A_impl_lattice_meetAll) S_impl_lattice_meetAll Try.f95.results.toList)) (fun j st => (blockK 0 (seqK ((A_impl_lattice_meetAll).shape 15) (run (A_impl_lattice_meetAll) N (codeAt Try.f95 [1, 1, 1])) (finish (A_impl_lattice_meetAll) S_impl_lattice_meetAll Try.f95.results.toList))) (.exit j) st)) l0 m5 t10 t11 t12 := iter_ex (fun st => by kernel_rfl) (fun st => by kernel_rfl)
  (e.trans (impl_lattice_meetAll_iter3 N (fun st' => run (A_impl_lattice_meetAll) N (codeAt Try.f95 [1, 1, 1]) st' (finish (A_impl_lattice_meetAll) S_impl_lattice_meetAll Try.f95.results.toList)) (fun j st => (blockK 0 (seqK ((A_impl_lattice_meetAll).shape 15) (run (A_impl_lattice_meetAll) N (codeAt Try.f95 [1, 1, 1])) (finish (A_impl_lattice_meetAll) S_impl_lattice_meetAll Try.f95.results.toList))) (.exit j) st) N l0 m5 t10 t11 t12)).trans (congrArg (fun k => impl_lattice_meetAll_l3 N k N l0 m5 t10 t11 t12) h)
theorem run0_impl_lattice_meetAll (N : Nat) (x : (S_impl_lattice_meetAll).a.den) : runF (A_impl_lattice_meetAll) N Try.f95 S_impl_lattice_meetAll x = (impl_lattice_meetAll_s (impl_lattice_meetAll_R3 (codeAt Try.f95 [1, 1, 0, 1, 0, 0]) N N (blockK 0 (seqK ((A_impl_lattice_meetAll).shape 15) (run (A_impl_lattice_meetAll) N (codeAt Try.f95 [1, 1, 1])) (finish (A_impl_lattice_meetAll) S_impl_lattice_meetAll Try.f95.results.toList)))) x.1 x.2.1) := by kernel_rfl
theorem run_impl_lattice_meetAll (N : Nat) (x : (S_impl_lattice_meetAll).a.den) : runF (A_impl_lattice_meetAll) N Try.f95 S_impl_lattice_meetAll x = impl_lattice_meetAll N x.1 x.2.1 := by
  refine (run0_impl_lattice_meetAll N x).trans ?_
  rw [(funext fun l0 => (funext fun m5 => (funext fun t10 => (funext fun t11 => (funext fun t12 => impl_lattice_meetAll_in3 N l0 m5 t10 t11 t12)))))]
  rfl
theorem fn_impl_lattice_meetAll : FnOk Try.prog 95 := ⟨_, Try.func95, by kernel_rfl, by kernel_rfl⟩
theorem good_impl_lattice_meetAll : Gx.Good Try.prog 95 S_impl_lattice_meetAll := good_of_run Try.func95 (of_decide_eq_true (by kernel_rfl)) fun x r h => ⟨A_impl_lattice_meetAll, big, mkCfg_ok tabOk, mkCfg_sigs (show SigsOk Try.prog [(137, S_impl_lattice_top)] from ⟨⟨fn_impl_lattice_top, good_impl_lattice_top⟩, trivial⟩), (run_impl_lattice_meetAll big x).trans h⟩

/-! impl_order_above_c1 -/
def impl_order_above_c1_s (y_0 : Int) (p_1 : (List (List Bool))) (p_2 : Int) : Option (Bool × Unit) :=
  (atI p_1 p_2).bind fun xq1 =>
  (atI xq1 y_0).bind fun xq2 =>
  some (xq2, (()))
def impl_order_above_c1 (y_0 : Int) (p_1 : (List (List Bool))) (p_2 : Int) : Option (Bool × Unit) := impl_order_above_c1_s y_0 p_1 p_2
def S_impl_order_above_c1 : Sig := { a := (.pair I (.pair (.ptr (.sl (.sl .bool))) (.pair (.ptr I) .unit))), md := [0, 0, 0], mf := [], m := .unit, r := .bool, rf := .i, f := fun x => impl_order_above_c1 x.1 x.2.1 x.2.2.1 }
def A_impl_order_above_c1 : Cfg := mkCfg tab [] []
theorem run_impl_order_above_c1 (N : Nat) (x : (S_impl_order_above_c1).a.den) : runF (A_impl_order_above_c1) N Try.f136 S_impl_order_above_c1 x = impl_order_above_c1 x.1 x.2.1 x.2.2.1 := by kernel_rfl
theorem fn_impl_order_above_c1 : FnOk Try.prog 136 := ⟨_, Try.func136, by kernel_rfl, by kernel_rfl⟩
theorem good_impl_order_above_c1 : Gx.Good Try.prog 136 S_impl_order_above_c1 := good_of_run Try.func136 (of_decide_eq_true (by kernel_rfl)) fun x r h => ⟨A_impl_order_above_c1, big, mkCfg_ok tabOk, mkCfg_sigs (show SigsOk Try.prog [] from trivial), (run_impl_order_above_c1 big x).trans h⟩

/-! impl_order_those_k_order_above_c1 -/
def impl_order_those_k_order_above_c1_b3 (rec : ((List (List Bool)) × (Int × Unit)) → (List Int) → Int → Int → Option ((List Int) × Unit)) (k : (List Int) → Option ((List Int) × Unit)) (so1 : ((List (List Bool)) × (Int × Unit))) (list5 : (List Int)) (t9 : Int) (t10 : Int) : Option ((List Int) × Unit) :=
  cond (decide (t10 < t9))
  ((impl_order_above_c1 t10 so1.1 so1.2.1).bind fun rq1 =>
  cond rq1.1
  ((appI list5 [t10]).bind fun xq2 =>
  rec so1 xq2 t9 (IntKind.i64.wrap (t10 + (1 : Int))))
  (rec so1 list5 t9 (IntKind.i64.wrap (t10 + (1 : Int)))))
  (k list5)
def impl_order_those_k_order_above_c1_a3 (list5 : (List Int)) : Option ((List Int) × Unit) :=
  some (list5, (()))
def impl_order_those_k_order_above_c1_s (L3 : ((List (List Bool)) × (Int × Unit)) → (List Int) → Int → Int → Option ((List Int) × Unit)) (o_0 : (List (List Bool))) (so_1 : ((List (List Bool)) × (Int × Unit))) : Option ((List Int) × Unit) :=
  L3 so_1 [] (o_0.length : Int) (0 : Int)
def impl_order_those_k_order_above_c1_l3 (N : Nat) (k : (List Int) → Option ((List Int) × Unit)) : Nat → ((List (List Bool)) × (Int × Unit)) → (List Int) → Int → Int → Option ((List Int) × Unit)
  | 0, _, _, _, _ => none
  | m + 1, so1, list5, t9, t10 => impl_order_those_k_order_above_c1_b3 (impl_order_those_k_order_above_c1_l3 N k m) k so1 list5 t9 t10
def impl_order_those_k_order_above_c1_F3 (N : Nat) (so1 : ((List (List Bool)) × (Int × Unit))) (list5 : (List Int)) (t9 : Int) (t10 : Int) : Option ((List Int) × Unit) := impl_order_those_k_order_above_c1_l3 N (impl_order_those_k_order_above_c1_a3) N so1 list5 t9 t10
def impl_order_those_k_order_above_c1 (N : Nat) (o_0 : (List (List Bool))) (so_1 : ((List (List Bool)) × (Int × Unit))) : Option ((List Int) × Unit) := impl_order_those_k_order_above_c1_s (impl_order_those_k_order_above_c1_F3 N) o_0 so_1
def S_impl_order_those_k_order_above_c1 : Sig := { a := (.pair (.sl (.sl .bool)) (.pair (.clo 136 0 (.pair (.ptr (.sl (.sl .bool))) (.pair (.ptr I) .unit))) .unit)), md := [0, 0], mf := [], m := .unit, r := (.sl I), rf := (.o .i), f := fun x => impl_order_those_k_order_above_c1 big x.1 x.2.1 }
def A_impl_order_those_k_order_above_c1 : Cfg := mkCfg tab [(136, S_impl_order_above_c1)] [(6, [.drop, .as (.clo 136 0 (.pair (.ptr (.sl (.sl .bool))) (.pair (.ptr I) .unit))) .i, .drop, .drop, .drop, .as (.sl I) (.o .i), .drop, .drop, .drop, .as I .i, .as I .i]), (17, [.drop, .drop, .drop, .drop, .drop, .as (.sl I) (.o .i)])]
def impl_order_those_k_order_above_c1_R3 (cd : Code) (N n : Nat) (K : Ex → St → Option ((List Int) × Unit)) (so1 : ((List (List Bool)) × (Int × Unit))) (list5 : (List Int)) (t9 : Int) (t10 : Int) : Option ((List Int) × Unit) := iter ((A_impl_order_those_k_order_above_c1).shape 6) (run (A_impl_order_those_k_order_above_c1) N cd) n ([.u, .val (.clo 136 0 (.pair (.ptr (.sl (.sl .bool))) (.pair (.ptr I) .unit))) .i so1, .u, .u, .u, .val (.sl I) (.o .i) list5, .u, .u, .u, .val I .i t9, .val I .i t10] ++ List.replicate 11 .u) K
theorem impl_order_those_k_order_above_c1_step3 (N : Nat) (m : Nat) (kX : St → Option ((List Int) × Unit)) (kO : Nat → St → Option ((List Int) × Unit)) (so1 : ((List (List Bool)) × (Int × Unit))) (list5 : (List Int)) (t9 : Int) (t10 : Int) : impl_order_those_k_order_above_c1_R3 (codeAt Try.f135 [1, 1, 0, 1, 0, 0]) N (m + 1) (exK (finish (A_impl_order_those_k_order_above_c1) S_impl_order_those_k_order_above_c1 Try.f135.results.toList) 0 ((A_impl_order_those_k_order_above_c1).shape 17) kX kO) so1 list5 t9 t10 = impl_order_those_k_order_above_c1_b3 (impl_order_those_k_order_above_c1_R3 (codeAt Try.f135 [1, 1, 0, 1, 0, 0]) N m (exK (finish (A_impl_order_those_k_order_above_c1) S_impl_order_those_k_order_above_c1 Try.f135.results.toList) 0 ((A_impl_order_those_k_order_above_c1).shape 17) kX kO)) (fun (list5 : (List Int)) => kX ([.u, .u, .u, .u, .u, .val (.sl I) (.o .i) list5] ++ List.replicate 16 .u)) so1 list5 t9 t10 := by kernel_rfl
theorem impl_order_those_k_order_above_c1_iter3 (N : Nat) (kX : St → Option ((List Int) × Unit)) (kO : Nat → St → Option ((List Int) × Unit)) : ∀ (n : Nat) (so1 : ((List (List Bool)) × (Int × Unit))) (list5 : (List Int)) (t9 : Int) (t10 : Int), impl_order_those_k_order_above_c1_R3 (codeAt Try.f135 [1, 1, 0, 1, 0, 0]) N n (exK (finish (A_impl_order_those_k_order_above_c1) S_impl_order_those_k_order_above_c1 Try.f135.results.toList) 0 ((A_impl_order_those_k_order_above_c1).shape 17) kX kO) so1 list5 t9 t10 = impl_order_those_k_order_above_c1_l3 N (fun (list5 : (List Int)) => kX ([.u, .u, .u, .u, .u, .val (.sl I) (.o .i) list5] ++ List.replicate 16 .u)) n so1 list5 t9 t10
  | 0, _, _, _, _ => rfl
  | m + 1, so1, list5, t9, t10 => by
    have hrec : impl_order_those_k_order_above_c1_R3 (codeAt Try.f135 [1, 1, 0, 1, 0, 0]) N m (exK (finish (A_impl_order_those_k_order_above_c1) S_impl_order_those_k_order_above_c1 Try.f135.results.toList) 0 ((A_impl_order_those_k_order_above_c1).shape 17) kX kO) = (impl_order_those_k_order_above_c1_l3 N (fun (list5 : (List Int)) => kX ([.u, .u, .u, .u, .u, .val (.sl I) (.o .i) list5] ++ List.replicate 16 .u)) m) := (funext fun so1 => (funext fun list5 => (funext fun t9 => (funext fun t10 => impl_order_those_k_order_above_c1_iter3 N kX kO m so1 list5 t9 t10))))
    refine (impl_order_those_k_order_above_c1_step3 N m kX kO so1 list5 t9 t10).trans ?_
    rw [hrec]
    rfl
theorem impl_order_those_k_order_above_c1_after3 (N : Nat) (list5 : (List Int)) : (fun st' => run (A_impl_order_those_k_order_above_c1) N (codeAt Try.f135 [1, 1, 1]) st' (finish (A_impl_order_those_k_order_above_c1) S_impl_order_those_k_order_above_c1 Try.f135.results.toList)) ([.u, .u, .u, .u, .u, .val (.sl I) (.o .i) list5] ++ List.replicate 16 .u) = impl_order_those_k_order_above_c1_a3 list5 := by kernel_rfl
theorem impl_order_those_k_order_above_c1_in3 (N : Nat) (so1 : ((List (List Bool)) × (Int × Unit))) (list5 : (List Int)) (t9 : Int) (t10 : Int) : impl_order_those_k_order_above_c1_R3 (codeAt Try.f135 [1, 1, 0, 1, 0, 0]) N N (blockK 0 (seqK ((A_impl_order_those_k_order_above_c1).shape 17) (run (A_impl_order_those_k_order_above_c1) N (codeAt Try.f135 [1, 1, 1])) (finish (A_impl_order_those_k_order_above_c1) S_impl_order_those_k_order_above_c1 Try.f135.results.toList))) so1 list5 t9 t10 = impl_order_those_k_order_above_c1_F3 N so1 list5 t9 t10 :=
  have h : (fun (list5 : (List Int)) => (fun st' => run (A_impl_order_those_k_order_above_c1) N (codeAt Try.f135 [1, 1, 1]) st' (finish (A_impl_order_those_k_order_above_c1) S_impl_order_those_k_order_above_c1 Try.f135.results.toList)) ([.u, .u, .u, .u, .u, .val (.sl I) (.o .i) list5] ++ List.replicate 16 .u)) = (impl_order_those_k_order_above_c1_a3) := (funext fun list5 => impl_order_those_k_order_above_c1_after3 N list5)
  have e : impl_order_those_k_order_above_c1_R3 (codeAt Try.f135 [1, 1, 0, 1, 0, 0]) N N (blockK 0 (seqK ((A_impl_order_those_k_order_above_c1).shape 17) (run (A_impl_order_those_k_order_above_c1) N (codeAt Try.f135 [1, 1, 1])) (finish (A_impl_order_those_k_order_above_c1) S_impl_order_those_k_order_above_c1 Try.f135.results.toList))) so1 list5 t9 t10 = impl_order_those_k_order_above_c1_R3 (codeAt Try.f135 [1, 1, 0, 1, 0, 0]) N N (exK (finish (A_impl_order_those_k_order_above_c1) S_impl_order_those_k_order_above_c1 Try.f135.results.toList) 0 ((A_impl_order_those_k_order_above_c1).shape 17) (fun st' => run (A_impl_order_those_k_order_above_c1) N (codeAt Try.f135 [1, 1, 1]) st' (finish (A_impl_order_those_k_order_above_c1) S_impl_order_those_k_order_above_c1 Try.f135.results.toList)) (fun j st => (blockK 0 (seqK ((A_impl_order_those_k_order_above_c1).shape 17) (run (A_impl_order_those_k_order_above_c1) N (codeAt Try.f135 [1, 1, 1])) (finish (A_impl_order_those_k_order_above_c1) S_impl_order_those_k_order_above_c1 Try.f135.results.toList))) (.exit j) st)) so1 list5 t9 t10 := iter_ex (fun st => by kernel_rfl) (fun st => by kernel_rfl)
  (e.trans (impl_order_those_k_order_above_c1_iter3 N (fun st' => run (A_impl_order_those_k_order_above_c1) N (codeAt Try.f135 [1, 1, 1]) st' (finish (A_impl_order_those_k_order_above_c1) S_impl_order_those_k_order_above_c1 Try.f135.results.toList)) (fun j st => (blockK 0 (seqK ((A_impl_order_those_k_order_above_c1).shape 17) (run (A_impl_order_those_k_order_above_c1) N (codeAt Try.f135 [1, 1, 1])) (finish (A_impl_order_those_k_order_above_c1) S_impl_order_those_k_order_above_c1 Try.f135.results.toList))) (.exit j) st) N so1 list5 t9 t10)).trans (congrArg (fun k => impl_order_those_k_order_above_c1_l3 N k N so1 list5 t9 t10) h)
theorem run0_impl_order_those_k_order_above_c1 (N : Nat) (x : (S_impl_order_those_k_order_above_c1).a.den) : runF (A_impl_order_those_k_order_above_c1) N Try.f135 S_impl_order_those_k_order_above_c1 x = (impl_order_those_k_order_above_c1_s (impl_order_those_k_order_above_c1_R3 (codeAt Try.f135 [1, 1, 0, 1, 0, 0]) N N (blockK 0 (seqK ((A_impl_order_those_k_order_above_c1).shape 17) (run (A_impl_order_those_k_order_above_c1) N (codeAt Try.f135 [1, 1, 1])) (finish (A_impl_order_those_k_order_above_c1) S_impl_order_those_k_order_above_c1 Try.f135.results.toList)))) x.1 x.2.1) := by kernel_rfl
theorem run_impl_order_those_k_order_above_c1 (N : Nat) (x : (S_impl_order_those_k_order_above_c1).a.den) : runF (A_impl_order_those_k_order_above_c1) N Try.f135 S_impl_order_those_k_order_above_c1 x = impl_order_those_k_order_above_c1 N x.1 x.2.1 := by
  refine (run0_impl_order_those_k_order_above_c1 N x).trans ?_
  rw [(funext fun so1 => (funext fun list5 => (funext fun t9 => (funext fun t10 => impl_order_those_k_order_above_c1_in3 N so1 list5 t9 t10))))]
  rfl
theorem fn_impl_order_those_k_order_above_c1 : FnOk Try.prog 135 := ⟨_, Try.func135, by kernel_rfl, by kernel_rfl⟩
theorem good_impl_order_those_k_order_above_c1 : Gx.Good Try.prog 135 S_impl_order_those_k_order_above_c1 := good_of_run Try.func135 (of_decide_eq_true (by kernel_rfl)) fun x r h => ⟨A_impl_order_those_k_order_above_c1, big, mkCfg_ok tabOk, mkCfg_sigs (show SigsOk Try.prog [(136, S_impl_order_above_c1)] from ⟨⟨fn_impl_order_above_c1, good_impl_order_above_c1⟩, trivial⟩), (run_impl_order_those_k_order_above_c1 big x).trans h⟩

/-! impl_order_above -/
def impl_order_above_s (o_0 : (List (List Bool))) (x_1 : Int) : Option ((List Int) × Unit) :=
  (impl_order_those_k_order_above_c1 big o_0 (o_0, x_1, ())).bind fun rq1 =>
  some (rq1.1, (()))
def impl_order_above (o_0 : (List (List Bool))) (x_1 : Int) : Option ((List Int) × Unit) := impl_order_above_s o_0 x_1
def S_impl_order_above : Sig := { a := (.pair (.sl (.sl .bool)) (.pair I .unit)), md := [0, 0], mf := [], m := .unit, r := (.sl I), rf := (.o .i), f := fun x => impl_order_above x.1 x.2.1 }
def A_impl_order_above : Cfg := mkCfg tab [(135, S_impl_order_those_k_order_above_c1)] [(3, [.drop, .drop, .as (.ptr (.sl (.sl .bool))) .i, .as (.ptr I) .i])]
theorem run_impl_order_above (N : Nat) (x : (S_impl_order_above).a.den) : runF (A_impl_order_above) N Try.f94 S_impl_order_above x = impl_order_above x.1 x.2.1 := by kernel_rfl
theorem fn_impl_order_above : FnOk Try.prog 94 := ⟨_, Try.func94, by kernel_rfl, by kernel_rfl⟩
theorem good_impl_order_above : Gx.Good Try.prog 94 S_impl_order_above := good_of_run Try.func94 (of_decide_eq_true (by kernel_rfl)) fun x r h => ⟨A_impl_order_above, big, mkCfg_ok tabOk, mkCfg_sigs (show SigsOk Try.prog [(135, S_impl_order_those_k_order_above_c1)] from ⟨⟨fn_impl_order_those_k_order_above_c1, good_impl_order_those_k_order_above_c1⟩, trivial⟩), (run_impl_order_above big x).trans h⟩

/-! impl_sameList -/
def impl_sameList_b4 (rec : (List Int) → (List Int) → Int → Int → Option (Bool × Unit)) (k : Option (Bool × Unit)) (b1 : (List Int)) (t12 : (List Int)) (t13 : Int) (t14 : Int) : Option (Bool × Unit) :=
  cond (decide (t14 < t13))
  ((atI t12 t14).bind fun xq1 =>
  (atI b1 t14).bind fun xq2 =>
  cond (decide (xq2 ≠ xq1))
  (some (false, (())))
  (rec b1 t12 t13 (IntKind.i64.wrap (t14 + (1 : Int)))))
  (k)
def impl_sameList_a4 : Option (Bool × Unit) :=
  some (true, (()))
def impl_sameList_s (L4 : (List Int) → (List Int) → Int → Int → Option (Bool × Unit)) (a_0 : (List Int)) (b_1 : (List Int)) : Option (Bool × Unit) :=
  cond (decide ((a_0.length : Int) ≠ (b_1.length : Int)))
  (some (false, (())))
  (L4 b_1 a_0 (a_0.length : Int) (0 : Int))
def impl_sameList_l4 (N : Nat) (k : Option (Bool × Unit)) : Nat → (List Int) → (List Int) → Int → Int → Option (Bool × Unit)
  | 0, _, _, _, _ => none
  | m + 1, b1, t12, t13, t14 => impl_sameList_b4 (impl_sameList_l4 N k m) k b1 t12 t13 t14
def impl_sameList_F4 (N : Nat) (b1 : (List Int)) (t12 : (List Int)) (t13 : Int) (t14 : Int) : Option (Bool × Unit) := impl_sameList_l4 N (impl_sameList_a4) N b1 t12 t13 t14
def impl_sameList (N : Nat) (a_0 : (List Int)) (b_1 : (List Int)) : Option (Bool × Unit) := impl_sameList_s (impl_sameList_F4 N) a_0 b_1
def S_impl_sameList : Sig := { a := (.pair (.sl I) (.pair (.sl I) .unit)), md := [0, 0], mf := [], m := .unit, r := .bool, rf := .i, f := fun x => impl_sameList big x.1 x.2.1 }
def A_impl_sameList : Cfg := mkCfg tab [] [(8, [.drop, .as (.sl I) .i, .drop, .drop, .drop, .drop, .drop, .drop, .drop, .drop, .drop, .drop, .as (.sl I) .i, .as I .i, .as I .i]), (19, [])]
def impl_sameList_R4 (cd : Code) (N n : Nat) (K : Ex → St → Option (Bool × Unit)) (b1 : (List Int)) (t12 : (List Int)) (t13 : Int) (t14 : Int) : Option (Bool × Unit) := iter ((A_impl_sameList).shape 8) (run (A_impl_sameList) N cd) n ([.u, .val (.sl I) .i b1, .u, .u, .u, .u, .u, .u, .u, .u, .u, .u, .val (.sl I) .i t12, .val I .i t13, .val I .i t14] ++ List.replicate 11 .u) K
theorem impl_sameList_step4 (N : Nat) (m : Nat) (kX : St → Option (Bool × Unit)) (kO : Nat → St → Option (Bool × Unit)) (b1 : (List Int)) (t12 : (List Int)) (t13 : Int) (t14 : Int) : impl_sameList_R4 (codeAt Try.f93 [1, 1, 0, 1, 0, 0]) N (m + 1) (exK (finish (A_impl_sameList) S_impl_sameList Try.f93.results.toList) 0 ((A_impl_sameList).shape 19) kX kO) b1 t12 t13 t14 = impl_sameList_b4 (impl_sameList_R4 (codeAt Try.f93 [1, 1, 0, 1, 0, 0]) N m (exK (finish (A_impl_sameList) S_impl_sameList Try.f93.results.toList) 0 ((A_impl_sameList).shape 19) kX kO)) (kX ([] ++ List.replicate 26 .u)) b1 t12 t13 t14 := by kernel_rfl
theorem impl_sameList_iter4 (N : Nat) (kX : St → Option (Bool × Unit)) (kO : Nat → St → Option (Bool × Unit)) : ∀ (n : Nat) (b1 : (List Int)) (t12 : (List Int)) (t13 : Int) (t14 : Int), impl_sameList_R4 (codeAt Try.f93 [1, 1, 0, 1, 0, 0]) N n (exK (finish (A_impl_sameList) S_impl_sameList Try.f93.results.toList) 0 ((A_impl_sameList).shape 19) kX kO) b1 t12 t13 t14 = impl_sameList_l4 N (kX ([] ++ List.replicate 26 .u)) n b1 t12 t13 t14
  | 0, _, _, _, _ => rfl
  | m + 1, b1, t12, t13, t14 => by
    have hrec : impl_sameList_R4 (codeAt Try.f93 [1, 1, 0, 1, 0, 0]) N m (exK (finish (A_impl_sameList) S_impl_sameList Try.f93.results.toList) 0 ((A_impl_sameList).shape 19) kX kO) = (impl_sameList_l4 N (kX ([] ++ List.replicate 26 .u)) m) := (funext fun b1 => (funext fun t12 => (funext fun t13 => (funext fun t14 => impl_sameList_iter4 N kX kO m b1 t12 t13 t14))))
    refine (impl_sameList_step4 N m kX kO b1 t12 t13 t14).trans ?_
    rw [hrec]
    rfl
theorem impl_sameList_after4 (N : Nat) : (fun st' => run (A_impl_sameList) N (codeAt Try.f93 [1, 1, 1]) st' (finish (A_impl_sameList) S_impl_sameList Try.f93.results.toList)) ([] ++ List.replicate 26 .u) = impl_sameList_a4 := by kernel_rfl
theorem impl_sameList_in4 (N : Nat) (b1 : (List Int)) (t12 : (List Int)) (t13 : Int) (t14 : Int) : impl_sameList_R4 (codeAt Try.f93 [1, 1, 0, 1, 0, 0]) N N (blockK 0 (seqK ((A_impl_sameList).shape 19) (run (A_impl_sameList) N (codeAt Try.f93 [1, 1, 1])) (finish (A_impl_sameList) S_impl_sameList Try.f93.results.toList))) b1 t12 t13 t14 = impl_sameList_F4 N b1 t12 t13 t14 :=
  have h : ((fun st' => run (A_impl_sameList) N (codeAt Try.f93 [1, 1, 1]) st' (finish (A_impl_sameList) S_impl_sameList Try.f93.results.toList)) ([] ++ List.replicate 26 .u)) = (impl_sameList_a4) := impl_sameList_after4 N
  have e : impl_sameList_R4 (codeAt Try.f93 [1, 1, 0, 1, 0, 0]) N N (blockK 0 (seqK ((A_impl_sameList).shape 19) (run (A_impl_sameList) N (codeAt Try.f93 [1, 1, 1])) (finish (A_impl_sameList) S_impl_sameList Try.f93.results.toList))) b1 t12 t13 t14 = impl_sameList_R4 (codeAt Try.f93 [1, 1, 0, 1, 0, 0]) N N (exK (finish (A_impl_sameList) S_impl_sameList Try.f93.results.toList) 0 ((A_impl_sameList).shape 19) (fun st' => run (A_impl_sameList) N (codeAt Try.f93 [1, 1, 1]) st' (finish (A_impl_sameList) S_impl_sameList Try.f93.results.toList)) (fun j st => (blockK 0 (seqK ((A_impl_sameList).shape 19) (run (A_impl_sameList) N (codeAt Try.f93 [1, 1, 1])) (finish (A_impl_sameList) S_impl_sameList Try.f93.results.toList))) (.exit j) st)) b1 t12 t13 t14 := iter_ex (fun st => by kernel_rfl) (fun st => by kernel_rfl)
  (e.trans (impl_sameList_iter4 N (fun st' => run (A_impl_sameList) N (codeAt Try.f93 [1, 1, 1]) st' (finish (A_impl_sameList) S_impl_sameList Try.f93.results.toList)) (fun j st => (blockK 0 (seqK ((A_impl_sameList).shape 19) (run (A_impl_sameList) N (codeAt Try.f93 [1, 1, 1])) (finish (A_impl_sameList) S_impl_sameList Try.f93.results.toList))) (.exit j) st) N b1 t12 t13 t14)).trans (congrArg (fun k => impl_sameList_l4 N k N b1 t12 t13 t14) h)
theorem run0_impl_sameList (N : Nat) (x : (S_impl_sameList).a.den) : runF (A_impl_sameList) N Try.f93 S_impl_sameList x = (impl_sameList_s (impl_sameList_R4 (codeAt Try.f93 [1, 1, 0, 1, 0, 0]) N N (blockK 0 (seqK ((A_impl_sameList).shape 19) (run (A_impl_sameList) N (codeAt Try.f93 [1, 1, 1])) (finish (A_impl_sameList) S_impl_sameList Try.f93.results.toList)))) x.1 x.2.1) := by kernel_rfl
theorem run_impl_sameList (N : Nat) (x : (S_impl_sameList).a.den) : runF (A_impl_sameList) N Try.f93 S_impl_sameList x = impl_sameList N x.1 x.2.1 := by
  refine (run0_impl_sameList N x).trans ?_
  rw [(funext fun b1 => (funext fun t12 => (funext fun t13 => (funext fun t14 => impl_sameList_in4 N b1 t12 t13 t14))))]
  rfl
theorem fn_impl_sameList : FnOk Try.prog 93 := ⟨_, Try.func93, by kernel_rfl, by kernel_rfl⟩
theorem good_impl_sameList : Gx.Good Try.prog 93 S_impl_sameList := good_of_run Try.func93 (of_decide_eq_true (by kernel_rfl)) fun x r h => ⟨A_impl_sameList, big, mkCfg_ok tabOk, mkCfg_sigs (show SigsOk Try.prog [] from trivial), (run_impl_sameList big x).trans h⟩

/-! impl_IsFilter -/
def impl_IsFilter_s (p_0 : ((List (List Int)) × Unit)) (list_1 : (List Int)) : Option ((Bool × (Bool × Unit)) × Unit) :=
  (impl_latticeOf p_0).bind fun rq1 =>
  cond (!rq1.1.2.1)
  (some ((false, false, ()), (())))
  (cond (decide ((0 : Int) < (list_1.length : Int)))
  ((rq1.1.1).bind fun xq2 =>
  (impl_order_has xq2.1 list_1).bind fun rq3 =>
  cond rq3.1
  ((rq1.1.1).bind fun xq4 =>
  (impl_lattice_meetAll big rq1.1.1 list_1).bind fun rq5 =>
  (impl_order_above xq4.1 rq5.1).bind fun rq6 =>
  (impl_sameList big list_1 rq6.1).bind fun rq7 =>
  some ((rq7.1, true, ()), (())))
  (some ((false, true, ()), (()))))
  (some ((false, true, ()), (()))))
def impl_IsFilter (p_0 : ((List (List Int)) × Unit)) (list_1 : (List Int)) : Option ((Bool × (Bool × Unit)) × Unit) := impl_IsFilter_s p_0 list_1
def S_impl_IsFilter : Sig := { a := (.pair (.pair (.sl (.sl I)) .unit) (.pair (.sl I) .unit)), md := [0, 0], mf := [], m := .unit, r := (.tup (.pair .bool (.pair .bool .unit))), rf := .i, f := fun x => impl_IsFilter x.1 x.2.1 }
def A_impl_IsFilter : Cfg := mkCfg tab [(91, S_impl_latticeOf), (92, S_impl_order_has), (95, S_impl_lattice_meetAll), (94, S_impl_order_above), (93, S_impl_sameList)] []
theorem run_impl_IsFilter (N : Nat) (x : (S_impl_IsFilter).a.den) : runF (A_impl_IsFilter) N Try.f44 S_impl_IsFilter x = impl_IsFilter x.1 x.2.1 := by kernel_rfl
theorem fn_impl_IsFilter : FnOk Try.prog 44 := ⟨_, Try.func44, by kernel_rfl, by kernel_rfl⟩
theorem good_impl_IsFilter : Gx.Good Try.prog 44 S_impl_IsFilter := good_of_run Try.func44 (of_decide_eq_true (by kernel_rfl)) fun x r h => ⟨A_impl_IsFilter, big, mkCfg_ok tabOk, mkCfg_sigs (show SigsOk Try.prog [(91, S_impl_latticeOf), (92, S_impl_order_has), (95, S_impl_lattice_meetAll), (94, S_impl_order_above), (93, S_impl_sameList)] from ⟨⟨fn_impl_latticeOf, good_impl_latticeOf⟩, ⟨fn_impl_order_has, good_impl_order_has⟩, ⟨fn_impl_lattice_meetAll, good_impl_lattice_meetAll⟩, ⟨fn_impl_order_above, good_impl_order_above⟩, ⟨fn_impl_sameList, good_impl_sameList⟩, trivial⟩), (run_impl_IsFilter big x).trans h⟩

/-! laws_eqIntS -/
def laws_eqIntS_b4 (rec : (List Int) → (List Int) → Int → Option (Bool × Unit)) (k : Option (Bool × Unit)) (a0 : (List Int)) (b1 : (List Int)) (i5 : Int) : Option (Bool × Unit) :=
  cond (decide (i5 < (a0.length : Int)))
  ((atI a0 i5).bind fun xq1 =>
  (atI b1 i5).bind fun xq2 =>
  cond (decide (xq1 ≠ xq2))
  (some (false, (())))
  (rec a0 b1 (IntKind.i64.wrap (i5 + (1 : Int)))))
  (k)
def laws_eqIntS_a4 : Option (Bool × Unit) :=
  some (true, (()))
def laws_eqIntS_s (L4 : (List Int) → (List Int) → Int → Option (Bool × Unit)) (a_0 : (List Int)) (b_1 : (List Int)) : Option (Bool × Unit) :=
  cond (decide ((a_0.length : Int) ≠ (b_1.length : Int)))
  (some (false, (())))
  (L4 a_0 b_1 (0 : Int))
def laws_eqIntS_l4 (N : Nat) (k : Option (Bool × Unit)) : Nat → (List Int) → (List Int) → Int → Option (Bool × Unit)
  | 0, _, _, _ => none
  | m + 1, a0, b1, i5 => laws_eqIntS_b4 (laws_eqIntS_l4 N k m) k a0 b1 i5
def laws_eqIntS_F4 (N : Nat) (a0 : (List Int)) (b1 : (List Int)) (i5 : Int) : Option (Bool × Unit) := laws_eqIntS_l4 N (laws_eqIntS_a4) N a0 b1 i5
def laws_eqIntS (N : Nat) (a_0 : (List Int)) (b_1 : (List Int)) : Option (Bool × Unit) := laws_eqIntS_s (laws_eqIntS_F4 N) a_0 b_1
def S_laws_eqIntS : Sig := { a := (.pair (.sl I) (.pair (.sl I) .unit)), md := [0, 0], mf := [], m := .unit, r := .bool, rf := .i, f := fun x => laws_eqIntS big x.1 x.2.1 }
def A_laws_eqIntS : Cfg := mkCfg tab [] [(8, [.as (.sl I) .i, .as (.sl I) .i, .drop, .drop, .drop, .as I .i]), (17, [])]
def laws_eqIntS_R4 (cd : Code) (N n : Nat) (K : Ex → St → Option (Bool × Unit)) (a0 : (List Int)) (b1 : (List Int)) (i5 : Int) : Option (Bool × Unit) := iter ((A_laws_eqIntS).shape 8) (run (A_laws_eqIntS) N cd) n ([.val (.sl I) .i a0, .val (.sl I) .i b1, .u, .u, .u, .val I .i i5] ++ List.replicate 20 .u) K
theorem laws_eqIntS_step4 (N : Nat) (m : Nat) (kX : St → Option (Bool × Unit)) (kO : Nat → St → Option (Bool × Unit)) (a0 : (List Int)) (b1 : (List Int)) (i5 : Int) : laws_eqIntS_R4 (codeAt Try.f18 [1, 1, 0, 1, 0, 0]) N (m + 1) (exK (finish (A_laws_eqIntS) S_laws_eqIntS Try.f18.results.toList) 0 ((A_laws_eqIntS).shape 17) kX kO) a0 b1 i5 = laws_eqIntS_b4 (laws_eqIntS_R4 (codeAt Try.f18 [1, 1, 0, 1, 0, 0]) N m (exK (finish (A_laws_eqIntS) S_laws_eqIntS Try.f18.results.toList) 0 ((A_laws_eqIntS).shape 17) kX kO)) (kX ([] ++ List.replicate 26 .u)) a0 b1 i5 := by kernel_rfl
theorem laws_eqIntS_iter4 (N : Nat) (kX : St → Option (Bool × Unit)) (kO : Nat → St → Option (Bool × Unit)) : ∀ (n : Nat) (a0 : (List Int)) (b1 : (List Int)) (i5 : Int), laws_eqIntS_R4 (codeAt Try.f18 [1, 1, 0, 1, 0, 0]) N n (exK (finish (A_laws_eqIntS) S_laws_eqIntS Try.f18.results.toList) 0 ((A_laws_eqIntS).shape 17) kX kO) a0 b1 i5 = laws_eqIntS_l4 N (kX ([] ++ List.replicate 26 .u)) n a0 b1 i5
  | 0, _, _, _ => rfl
  | m + 1, a0, b1, i5 => by
    have hrec : laws_eqIntS_R4 (codeAt Try.f18 [1, 1, 0, 1, 0, 0]) N m (exK (finish (A_laws_eqIntS) S_laws_eqIntS Try.f18.results.toList) 0 ((A_laws_eqIntS).shape 17) kX kO) = (laws_eqIntS_l4 N (kX ([] ++ List.replicate 26 .u)) m) := (funext fun a0 => (funext fun b1 => (funext fun i5 => laws_eqIntS_iter4 N kX kO m a0 b1 i5)))
    refine (laws_eqIntS_step4 N m kX kO a0 b1 i5).trans ?_
    rw [hrec]
    rfl
theorem laws_eqIntS_after4 (N : Nat) : (fun st' => run (A_laws_eqIntS) N (codeAt Try.f18 [1, 1, 1]) st' (finish (A_laws_eqIntS) S_laws_eqIntS Try.f18.results.toList)) ([] ++ List.replicate 26 .u) = laws_eqIntS_a4 := by kernel_rfl
theorem laws_eqIntS_in4 (N : Nat) (a0 : (List Int)) (b1 : (List Int)) (i5 : Int) : laws_eqIntS_R4 (codeAt Try.f18 [1, 1, 0, 1, 0, 0]) N N (blockK 0 (seqK ((A_laws_eqIntS).shape 17) (run (A_laws_eqIntS) N (codeAt Try.f18 [1, 1, 1])) (finish (A_laws_eqIntS) S_laws_eqIntS Try.f18.results.toList))) a0 b1 i5 = laws_eqIntS_F4 N a0 b1 i5 :=
  have h : ((fun st' => run (A_laws_eqIntS) N (codeAt Try.f18 [1, 1, 1]) st' (finish (A_laws_eqIntS) S_laws_eqIntS Try.f18.results.toList)) ([] ++ List.replicate 26 .u)) = (laws_eqIntS_a4) := laws_eqIntS_after4 N
  have e : laws_eqIntS_R4 (codeAt Try.f18 [1, 1, 0, 1, 0, 0]) N N (blockK 0 (seqK ((A_laws_eqIntS).shape 17) (run (A_laws_eqIntS) N (codeAt Try.f18 [1, 1, 1])) (finish (A_laws_eqIntS) S_laws_eqIntS Try.f18.results.toList))) a0 b1 i5 = laws_eqIntS_R4 (codeAt Try.f18 [1, 1, 0, 1, 0, 0]) N N (exK (finish (A_laws_eqIntS) S_laws_eqIntS Try.f18.results.toList) 0 ((A_laws_eqIntS).shape 17) (fun st' => run (A_laws_eqIntS) N (codeAt Try.f18 [1, 1, 1]) st' (finish (A_laws_eqIntS) S_laws_eqIntS Try.f18.results.toList)) (fun j st => (blockK 0 (seqK ((A_laws_eqIntS).shape 17) (run (A_laws_eqIntS) N (codeAt Try.f18 [1, 1, 1])) (finish (A_laws_eqIntS) S_laws_eqIntS Try.f18.results.toList))) (.exit j) st)) a0 b1 i5 := iter_ex (fun st => by kernel_rfl) (fun st => by kernel_rfl)
  (e.trans (laws_eqIntS_iter4 N (fun st' => run (A_laws_eqIntS) N (codeAt Try.f18 [1, 1, 1]) st' (finish (A_laws_eqIntS) S_laws_eqIntS Try.f18.results.toList)) (fun j st => (blockK 0 (seqK ((A_laws_eqIntS).shape 17) (run (A_laws_eqIntS) N (codeAt Try.f18 [1, 1, 1])) (finish (A_laws_eqIntS) S_laws_eqIntS Try.f18.results.toList))) (.exit j) st) N a0 b1 i5)).trans (congrArg (fun k => laws_eqIntS_l4 N k N a0 b1 i5) h)
theorem run0_laws_eqIntS (N : Nat) (x : (S_laws_eqIntS).a.den) : runF (A_laws_eqIntS) N Try.f18 S_laws_eqIntS x = (laws_eqIntS_s (laws_eqIntS_R4 (codeAt Try.f18 [1, 1, 0, 1, 0, 0]) N N (blockK 0 (seqK ((A_laws_eqIntS).shape 17) (run (A_laws_eqIntS) N (codeAt Try.f18 [1, 1, 1])) (finish (A_laws_eqIntS) S_laws_eqIntS Try.f18.results.toList)))) x.1 x.2.1) := by kernel_rfl
theorem run_laws_eqIntS (N : Nat) (x : (S_laws_eqIntS).a.den) : runF (A_laws_eqIntS) N Try.f18 S_laws_eqIntS x = laws_eqIntS N x.1 x.2.1 := by
  refine (run0_laws_eqIntS N x).trans ?_
  rw [(funext fun a0 => (funext fun b1 => (funext fun i5 => laws_eqIntS_in4 N a0 b1 i5)))]
  rfl
theorem fn_laws_eqIntS : FnOk Try.prog 18 := ⟨_, Try.func18, by kernel_rfl, by kernel_rfl⟩
theorem good_laws_eqIntS : Gx.Good Try.prog 18 S_laws_eqIntS := good_of_run Try.func18 (of_decide_eq_true (by kernel_rfl)) fun x r h => ⟨A_laws_eqIntS, big, mkCfg_ok tabOk, mkCfg_sigs (show SigsOk Try.prog [] from trivial), (run_laws_eqIntS big x).trans h⟩

/-! laws_eqIntSS -/
def laws_eqIntSS_b4 (rec : (List (List Int)) → (List (List Int)) → Int → Option (Bool × Unit)) (k : Option (Bool × Unit)) (a0 : (List (List Int))) (b1 : (List (List Int))) (i5 : Int) : Option (Bool × Unit) :=
  cond (decide (i5 < (a0.length : Int)))
  ((atI a0 i5).bind fun xq1 =>
  (atI b1 i5).bind fun xq2 =>
  (laws_eqIntS big xq1 xq2).bind fun rq3 =>
  cond (!rq3.1)
  (some (false, (())))
  (rec a0 b1 (IntKind.i64.wrap (i5 + (1 : Int)))))
  (k)
def laws_eqIntSS_a4 : Option (Bool × Unit) :=
  some (true, (()))
def laws_eqIntSS_s (L4 : (List (List Int)) → (List (List Int)) → Int → Option (Bool × Unit)) (a_0 : (List (List Int))) (b_1 : (List (List Int))) : Option (Bool × Unit) :=
  cond (decide ((a_0.length : Int) ≠ (b_1.length : Int)))
  (some (false, (())))
  (L4 a_0 b_1 (0 : Int))
def laws_eqIntSS_l4 (N : Nat) (k : Option (Bool × Unit)) : Nat → (List (List Int)) → (List (List Int)) → Int → Option (Bool × Unit)
  | 0, _, _, _ => none
  | m + 1, a0, b1, i5 => laws_eqIntSS_b4 (laws_eqIntSS_l4 N k m) k a0 b1 i5
def laws_eqIntSS_F4 (N : Nat) (a0 : (List (List Int))) (b1 : (List (List Int))) (i5 : Int) : Option (Bool × Unit) := laws_eqIntSS_l4 N (laws_eqIntSS_a4) N a0 b1 i5
def laws_eqIntSS (N : Nat) (a_0 : (List (List Int))) (b_1 : (List (List Int))) : Option (Bool × Unit) := laws_eqIntSS_s (laws_eqIntSS_F4 N) a_0 b_1
def S_laws_eqIntSS : Sig := { a := (.pair (.sl (.sl I)) (.pair (.sl (.sl I)) .unit)), md := [0, 0], mf := [], m := .unit, r := .bool, rf := .i, f := fun x => laws_eqIntSS big x.1 x.2.1 }
def A_laws_eqIntSS : Cfg := mkCfg tab [(18, S_laws_eqIntS)] [(8, [.as (.sl (.sl I)) .i, .as (.sl (.sl I)) .i, .drop, .drop, .drop, .as I .i]), (17, [])]
def laws_eqIntSS_R4 (cd : Code) (N n : Nat) (K : Ex → St → Option (Bool × Unit)) (a0 : (List (List Int))) (b1 : (List (List Int))) (i5 : Int) : Option (Bool × Unit) := iter ((A_laws_eqIntSS).shape 8) (run (A_laws_eqIntSS) N cd) n ([.val (.sl (.sl I)) .i a0, .val (.sl (.sl I)) .i b1, .u, .u, .u, .val I .i i5] ++ List.replicate 21 .u) K
theorem laws_eqIntSS_step4 (N : Nat) (m : Nat) (kX : St → Option (Bool × Unit)) (kO : Nat → St → Option (Bool × Unit)) (a0 : (List (List Int))) (b1 : (List (List Int))) (i5 : Int) : laws_eqIntSS_R4 (codeAt Try.f26 [1, 1, 0, 1, 0, 0]) N (m + 1) (exK (finish (A_laws_eqIntSS) S_laws_eqIntSS Try.f26.results.toList) 0 ((A_laws_eqIntSS).shape 17) kX kO) a0 b1 i5 = laws_eqIntSS_b4 (laws_eqIntSS_R4 (codeAt Try.f26 [1, 1, 0, 1, 0, 0]) N m (exK (finish (A_laws_eqIntSS) S_laws_eqIntSS Try.f26.results.toList) 0 ((A_laws_eqIntSS).shape 17) kX kO)) (kX ([] ++ List.replicate 27 .u)) a0 b1 i5 := by kernel_rfl
theorem laws_eqIntSS_iter4 (N : Nat) (kX : St → Option (Bool × Unit)) (kO : Nat → St → Option (Bool × Unit)) : ∀ (n : Nat) (a0 : (List (List Int))) (b1 : (List (List Int))) (i5 : Int), laws_eqIntSS_R4 (codeAt Try.f26 [1, 1, 0, 1, 0, 0]) N n (exK (finish (A_laws_eqIntSS) S_laws_eqIntSS Try.f26.results.toList) 0 ((A_laws_eqIntSS).shape 17) kX kO) a0 b1 i5 = laws_eqIntSS_l4 N (kX ([] ++ List.replicate 27 .u)) n a0 b1 i5
  | 0, _, _, _ => rfl
  | m + 1, a0, b1, i5 => by
    have hrec : laws_eqIntSS_R4 (codeAt Try.f26 [1, 1, 0, 1, 0, 0]) N m (exK (finish (A_laws_eqIntSS) S_laws_eqIntSS Try.f26.results.toList) 0 ((A_laws_eqIntSS).shape 17) kX kO) = (laws_eqIntSS_l4 N (kX ([] ++ List.replicate 27 .u)) m) := (funext fun a0 => (funext fun b1 => (funext fun i5 => laws_eqIntSS_iter4 N kX kO m a0 b1 i5)))
    refine (laws_eqIntSS_step4 N m kX kO a0 b1 i5).trans ?_
    rw [hrec]
    rfl
theorem laws_eqIntSS_after4 (N : Nat) : (fun st' => run (A_laws_eqIntSS) N (codeAt Try.f26 [1, 1, 1]) st' (finish (A_laws_eqIntSS) S_laws_eqIntSS Try.f26.results.toList)) ([] ++ List.replicate 27 .u) = laws_eqIntSS_a4 := by kernel_rfl
theorem laws_eqIntSS_in4 (N : Nat) (a0 : (List (List Int))) (b1 : (List (List Int))) (i5 : Int) : laws_eqIntSS_R4 (codeAt Try.f26 [1, 1, 0, 1, 0, 0]) N N (blockK 0 (seqK ((A_laws_eqIntSS).shape 17) (run (A_laws_eqIntSS) N (codeAt Try.f26 [1, 1, 1])) (finish (A_laws_eqIntSS) S_laws_eqIntSS Try.f26.results.toList))) a0 b1 i5 = laws_eqIntSS_F4 N a0 b1 i5 :=
  have h : ((fun st' => run (A_laws_eqIntSS) N (codeAt Try.f26 [1, 1, 1]) st' (finish (A_laws_eqIntSS) S_laws_eqIntSS Try.f26.results.toList)) ([] ++ List.replicate 27 .u)) = (laws_eqIntSS_a4) := laws_eqIntSS_after4 N
  have e : laws_eqIntSS_R4 (codeAt Try.f26 [1, 1, 0, 1, 0, 0]) N N (blockK 0 (seqK ((A_laws_eqIntSS).shape 17) (run (A_laws_eqIntSS) N (codeAt Try.f26 [1, 1, 1])) (finish (A_laws_eqIntSS) S_laws_eqIntSS Try.f26.results.toList))) a0 b1 i5 = laws_eqIntSS_R4 (codeAt Try.f26 [1, 1, 0, 1, 0, 0]) N N (exK (finish (A_laws_eqIntSS) S_laws_eqIntSS Try.f26.results.toList) 0 ((A_laws_eqIntSS).shape 17) (fun st' => run (A_laws_eqIntSS) N (codeAt Try.f26 [1, 1, 1]) st' (finish (A_laws_eqIntSS) S_laws_eqIntSS Try.f26.results.toList)) (fun j st => (blockK 0 (seqK ((A_laws_eqIntSS).shape 17) (run (A_laws_eqIntSS) N (codeAt Try.f26 [1, 1, 1])) (finish (A_laws_eqIntSS) S_laws_eqIntSS Try.f26.results.toList))) (.exit j) st)) a0 b1 i5 := iter_ex (fun st => by kernel_rfl) (fun st => by kernel_rfl)
  (e.trans (laws_eqIntSS_iter4 N (fun st' => run (A_laws_eqIntSS) N (codeAt Try.f26 [1, 1, 1]) st' (finish (A_laws_eqIntSS) S_laws_eqIntSS Try.f26.results.toList)) (fun j st => (blockK 0 (seqK ((A_laws_eqIntSS).shape 17) (run (A_laws_eqIntSS) N (codeAt Try.f26 [1, 1, 1])) (finish (A_laws_eqIntSS) S_laws_eqIntSS Try.f26.results.toList))) (.exit j) st) N a0 b1 i5)).trans (congrArg (fun k => laws_eqIntSS_l4 N k N a0 b1 i5) h)
theorem run0_laws_eqIntSS (N : Nat) (x : (S_laws_eqIntSS).a.den) : runF (A_laws_eqIntSS) N Try.f26 S_laws_eqIntSS x = (laws_eqIntSS_s (laws_eqIntSS_R4 (codeAt Try.f26 [1, 1, 0, 1, 0, 0]) N N (blockK 0 (seqK ((A_laws_eqIntSS).shape 17) (run (A_laws_eqIntSS) N (codeAt Try.f26 [1, 1, 1])) (finish (A_laws_eqIntSS) S_laws_eqIntSS Try.f26.results.toList)))) x.1 x.2.1) := by kernel_rfl
theorem run_laws_eqIntSS (N : Nat) (x : (S_laws_eqIntSS).a.den) : runF (A_laws_eqIntSS) N Try.f26 S_laws_eqIntSS x = laws_eqIntSS N x.1 x.2.1 := by
  refine (run0_laws_eqIntSS N x).trans ?_
  rw [(funext fun a0 => (funext fun b1 => (funext fun i5 => laws_eqIntSS_in4 N a0 b1 i5)))]
  rfl
theorem fn_laws_eqIntSS : FnOk Try.prog 26 := ⟨_, Try.func26, by kernel_rfl, by kernel_rfl⟩
theorem good_laws_eqIntSS : Gx.Good Try.prog 26 S_laws_eqIntSS := good_of_run Try.func26 (of_decide_eq_true (by kernel_rfl)) fun x r h => ⟨A_laws_eqIntSS, big, mkCfg_ok tabOk, mkCfg_sigs (show SigsOk Try.prog [(18, S_laws_eqIntS)] from ⟨⟨fn_laws_eqIntS, good_laws_eqIntS⟩, trivial⟩), (run_laws_eqIntSS big x).trans h⟩

/-! laws_eqPoset -/
def laws_eqPoset_s (a_0 : ((List (List Int)) × Unit)) (b_1 : ((List (List Int)) × Unit)) : Option (Bool × Unit) :=
  (laws_eqIntSS big a_0.1 b_1.1).bind fun rq1 =>
  cond (!rq1.1)
  (some (false, (())))
  (some (true, (())))
def laws_eqPoset (a_0 : ((List (List Int)) × Unit)) (b_1 : ((List (List Int)) × Unit)) : Option (Bool × Unit) := laws_eqPoset_s a_0 b_1
def S_laws_eqPoset : Sig := { a := (.pair (.pair (.sl (.sl I)) .unit) (.pair (.pair (.sl (.sl I)) .unit) .unit)), md := [0, 0], mf := [], m := .unit, r := .bool, rf := .i, f := fun x => laws_eqPoset x.1 x.2.1 }
def A_laws_eqPoset : Cfg := mkCfg tab [(26, S_laws_eqIntSS)] []
theorem run_laws_eqPoset (N : Nat) (x : (S_laws_eqPoset).a.den) : runF (A_laws_eqPoset) N Try.f21 S_laws_eqPoset x = laws_eqPoset x.1 x.2.1 := by kernel_rfl
theorem fn_laws_eqPoset : FnOk Try.prog 21 := ⟨_, Try.func21, by kernel_rfl, by kernel_rfl⟩
theorem good_laws_eqPoset : Gx.Good Try.prog 21 S_laws_eqPoset := good_of_run Try.func21 (of_decide_eq_true (by kernel_rfl)) fun x r h => ⟨A_laws_eqPoset, big, mkCfg_ok tabOk, mkCfg_sigs (show SigsOk Try.prog [(26, S_laws_eqIntSS)] from ⟨⟨fn_laws_eqIntSS, good_laws_eqIntSS⟩, trivial⟩), (run_laws_eqPoset big x).trans h⟩

/-! laws_FnExactIsFilter -/
def laws_FnExactIsFilter_s (aP_0 : ((List (List Int)) × Unit)) (aList_1 : (List Int)) : Option (Bool × Unit) :=
  cond (decide ((1048576 : Int) < (aList_1.length : Int)))
  (some (true, (())))
  ((laws_szPoset aP_0 (1048576 : Int)).bind fun rq1 =>
  cond (decide (rq1.1 < (0 : Int)))
  (some (true, (())))
  ((laws_toPoset aP_0).bind fun rq2 =>
  (laws_toIntS big aList_1).bind fun rq3 =>
  (spec_IsFilter rq2.1 rq3.1).bind fun rq4 =>
  (laws_toPoset aP_0).bind fun rq5 =>
  (laws_toIntS big aList_1).bind fun rq6 =>
  (impl_IsFilter rq5.1 rq6.1).bind fun rq7 =>
  cond (rq7.1.1 != rq4.1.1)
  (some (false, (())))
  (cond (rq7.1.2.1 != rq4.1.2.1)
  (some (false, (())))
  ((laws_toPoset aP_0).bind fun rq8 =>
  (laws_eqPoset rq5.1 rq8.1).bind fun rq9 =>
  cond (!rq9.1)
  (some (false, (())))
  ((laws_toIntS big aList_1).bind fun rq10 =>
  (laws_eqIntS big rq6.1 rq10.1).bind fun rq11 =>
  cond (!rq11.1)
  (some (false, (())))
  (some (true, (()))))))))
def laws_FnExactIsFilter (aP_0 : ((List (List Int)) × Unit)) (aList_1 : (List Int)) : Option (Bool × Unit) := laws_FnExactIsFilter_s aP_0 aList_1
def S_laws_FnExactIsFilter : Sig := { a := (.pair (.pair (.sl (.sl I)) .unit) (.pair (.sl I) .unit)), md := [0, 0], mf := [], m := .unit, r := .bool, rf := .i, f := fun x => laws_FnExactIsFilter x.1 x.2.1 }
def A_laws_FnExactIsFilter : Cfg := mkCfg tab [(39, S_laws_szPoset), (41, S_laws_toPoset), (16, S_laws_toIntS), (43, S_spec_IsFilter), (44, S_impl_IsFilter), (21, S_laws_eqPoset), (18, S_laws_eqIntS)] []
theorem run_laws_FnExactIsFilter (N : Nat) (x : (S_laws_FnExactIsFilter).a.den) : runF (A_laws_FnExactIsFilter) N Try.f9 S_laws_FnExactIsFilter x = laws_FnExactIsFilter x.1 x.2.1 := by kernel_rfl
theorem fn_laws_FnExactIsFilter : FnOk Try.prog 9 := ⟨_, Try.func9, by kernel_rfl, by kernel_rfl⟩
theorem good_laws_FnExactIsFilter : Gx.Good Try.prog 9 S_laws_FnExactIsFilter := good_of_run Try.func9 (of_decide_eq_true (by kernel_rfl)) fun x r h => ⟨A_laws_FnExactIsFilter, big, mkCfg_ok tabOk, mkCfg_sigs (show SigsOk Try.prog [(39, S_laws_szPoset), (41, S_laws_toPoset), (16, S_laws_toIntS), (43, S_spec_IsFilter), (44, S_impl_IsFilter), (21, S_laws_eqPoset), (18, S_laws_eqIntS)] from ⟨⟨fn_laws_szPoset, good_laws_szPoset⟩, ⟨fn_laws_toPoset, good_laws_toPoset⟩, ⟨fn_laws_toIntS, good_laws_toIntS⟩, ⟨fn_spec_IsFilter, good_spec_IsFilter⟩, ⟨fn_impl_IsFilter, good_impl_IsFilter⟩, ⟨fn_laws_eqPoset, good_laws_eqPoset⟩, ⟨fn_laws_eqIntS, good_laws_eqIntS⟩, trivial⟩), (run_laws_FnExactIsFilter big x).trans h⟩

/-! spec_l2Elements -/
def spec_l2Elements_b2 (rec : Int → (List Int) → Int → Option (Bool × Unit)) (k : Option (Bool × Unit)) (n0 : Int) (list1 : (List Int)) (i5 : Int) : Option (Bool × Unit) :=
  cond (decide (i5 < (list1.length : Int)))
  ((atI list1 i5).bind fun xq1 =>
  (spec_l1In xq1 (0 : Int) (IntKind.i64.wrap (n0 - (1 : Int)))).bind fun rq2 =>
  cond (!rq2.1)
  (some (false, (())))
  (rec n0 list1 (IntKind.i64.wrap (i5 + (1 : Int)))))
  (k)
def spec_l2Elements_a2 : Option (Bool × Unit) :=
  some (true, (()))
def spec_l2Elements_s (L2 : Int → (List Int) → Int → Option (Bool × Unit)) (n_0 : Int) (list_1 : (List Int)) : Option (Bool × Unit) :=
  L2 n_0 list_1 (0 : Int)
def spec_l2Elements_l2 (N : Nat) (k : Option (Bool × Unit)) : Nat → Int → (List Int) → Int → Option (Bool × Unit)
  | 0, _, _, _ => none
  | m + 1, n0, list1, i5 => spec_l2Elements_b2 (spec_l2Elements_l2 N k m) k n0 list1 i5
def spec_l2Elements_F2 (N : Nat) (n0 : Int) (list1 : (List Int)) (i5 : Int) : Option (Bool × Unit) := spec_l2Elements_l2 N (spec_l2Elements_a2) N n0 list1 i5
def spec_l2Elements (N : Nat) (n_0 : Int) (list_1 : (List Int)) : Option (Bool × Unit) := spec_l2Elements_s (spec_l2Elements_F2 N) n_0 list_1
def S_spec_l2Elements : Sig := { a := (.pair I (.pair (.sl I) .unit)), md := [0, 0], mf := [], m := .unit, r := .bool, rf := .i, f := fun x => spec_l2Elements big x.1 x.2.1 }
def A_spec_l2Elements : Cfg := mkCfg tab [(59, S_spec_l1In)] [(4, [.as I .i, .as (.sl I) .i, .drop, .drop, .drop, .as I .i]), (13, [])]
def spec_l2Elements_R2 (cd : Code) (N n : Nat) (K : Ex → St → Option (Bool × Unit)) (n0 : Int) (list1 : (List Int)) (i5 : Int) : Option (Bool × Unit) := iter ((A_spec_l2Elements).shape 4) (run (A_spec_l2Elements) N cd) n ([.val I .i n0, .val (.sl I) .i list1, .u, .u, .u, .val I .i i5] ++ List.replicate 14 .u) K
theorem spec_l2Elements_step2 (N : Nat) (m : Nat) (kX : St → Option (Bool × Unit)) (kO : Nat → St → Option (Bool × Unit)) (n0 : Int) (list1 : (List Int)) (i5 : Int) : spec_l2Elements_R2 (codeAt Try.f109 [1, 0, 1, 0, 0]) N (m + 1) (exK (finish (A_spec_l2Elements) S_spec_l2Elements Try.f109.results.toList) 0 ((A_spec_l2Elements).shape 13) kX kO) n0 list1 i5 = spec_l2Elements_b2 (spec_l2Elements_R2 (codeAt Try.f109 [1, 0, 1, 0, 0]) N m (exK (finish (A_spec_l2Elements) S_spec_l2Elements Try.f109.results.toList) 0 ((A_spec_l2Elements).shape 13) kX kO)) (kX ([] ++ List.replicate 20 .u)) n0 list1 i5 := by kernel_rfl
theorem spec_l2Elements_iter2 (N : Nat) (kX : St → Option (Bool × Unit)) (kO : Nat → St → Option (Bool × Unit)) : ∀ (n : Nat) (n0 : Int) (list1 : (List Int)) (i5 : Int), spec_l2Elements_R2 (codeAt Try.f109 [1, 0, 1, 0, 0]) N n (exK (finish (A_spec_l2Elements) S_spec_l2Elements Try.f109.results.toList) 0 ((A_spec_l2Elements).shape 13) kX kO) n0 list1 i5 = spec_l2Elements_l2 N (kX ([] ++ List.replicate 20 .u)) n n0 list1 i5
  | 0, _, _, _ => rfl
  | m + 1, n0, list1, i5 => by
    have hrec : spec_l2Elements_R2 (codeAt Try.f109 [1, 0, 1, 0, 0]) N m (exK (finish (A_spec_l2Elements) S_spec_l2Elements Try.f109.results.toList) 0 ((A_spec_l2Elements).shape 13) kX kO) = (spec_l2Elements_l2 N (kX ([] ++ List.replicate 20 .u)) m) := (funext fun n0 => (funext fun list1 => (funext fun i5 => spec_l2Elements_iter2 N kX kO m n0 list1 i5)))
    refine (spec_l2Elements_step2 N m kX kO n0 list1 i5).trans ?_
    rw [hrec]
    rfl
theorem spec_l2Elements_after2 (N : Nat) : (fun st' => run (A_spec_l2Elements) N (codeAt Try.f109 [1, 1]) st' (finish (A_spec_l2Elements) S_spec_l2Elements Try.f109.results.toList)) ([] ++ List.replicate 20 .u) = spec_l2Elements_a2 := by kernel_rfl
theorem spec_l2Elements_in2 (N : Nat) (n0 : Int) (list1 : (List Int)) (i5 : Int) : spec_l2Elements_R2 (codeAt Try.f109 [1, 0, 1, 0, 0]) N N (blockK 0 (seqK ((A_spec_l2Elements).shape 13) (run (A_spec_l2Elements) N (codeAt Try.f109 [1, 1])) (finish (A_spec_l2Elements) S_spec_l2Elements Try.f109.results.toList))) n0 list1 i5 = spec_l2Elements_F2 N n0 list1 i5 :=
  have h : ((fun st' => run (A_spec_l2Elements) N (codeAt Try.f109 [1, 1]) st' (finish (A_spec_l2Elements) S_spec_l2Elements Try.f109.results.toList)) ([] ++ List.replicate 20 .u)) = (spec_l2Elements_a2) := spec_l2Elements_after2 N
  have e : spec_l2Elements_R2 (codeAt Try.f109 [1, 0, 1, 0, 0]) N N (blockK 0 (seqK ((A_spec_l2Elements).shape 13) (run (A_spec_l2Elements) N (codeAt Try.f109 [1, 1])) (finish (A_spec_l2Elements) S_spec_l2Elements Try.f109.results.toList))) n0 list1 i5 = spec_l2Elements_R2 (codeAt Try.f109 [1, 0, 1, 0, 0]) N N (exK (finish (A_spec_l2Elements) S_spec_l2Elements Try.f109.results.toList) 0 ((A_spec_l2Elements).shape 13) (fun st' => run (A_spec_l2Elements) N (codeAt Try.f109 [1, 1]) st' (finish (A_spec_l2Elements) S_spec_l2Elements Try.f109.results.toList)) (fun j st => (blockK 0 (seqK ((A_spec_l2Elements).shape 13) (run (A_spec_l2Elements) N (codeAt Try.f109 [1, 1])) (finish (A_spec_l2Elements) S_spec_l2Elements Try.f109.results.toList))) (.exit j) st)) n0 list1 i5 := iter_ex (fun st => by kernel_rfl) (fun st => by kernel_rfl)
  (e.trans (spec_l2Elements_iter2 N (fun st' => run (A_spec_l2Elements) N (codeAt Try.f109 [1, 1]) st' (finish (A_spec_l2Elements) S_spec_l2Elements Try.f109.results.toList)) (fun j st => (blockK 0 (seqK ((A_spec_l2Elements).shape 13) (run (A_spec_l2Elements) N (codeAt Try.f109 [1, 1])) (finish (A_spec_l2Elements) S_spec_l2Elements Try.f109.results.toList))) (.exit j) st) N n0 list1 i5)).trans (congrArg (fun k => spec_l2Elements_l2 N k N n0 list1 i5) h)
theorem run0_spec_l2Elements (N : Nat) (x : (S_spec_l2Elements).a.den) : runF (A_spec_l2Elements) N Try.f109 S_spec_l2Elements x = (spec_l2Elements_s (spec_l2Elements_R2 (codeAt Try.f109 [1, 0, 1, 0, 0]) N N (blockK 0 (seqK ((A_spec_l2Elements).shape 13) (run (A_spec_l2Elements) N (codeAt Try.f109 [1, 1])) (finish (A_spec_l2Elements) S_spec_l2Elements Try.f109.results.toList)))) x.1 x.2.1) := by kernel_rfl
theorem run_spec_l2Elements (N : Nat) (x : (S_spec_l2Elements).a.den) : runF (A_spec_l2Elements) N Try.f109 S_spec_l2Elements x = spec_l2Elements N x.1 x.2.1 := by
  refine (run0_spec_l2Elements N x).trans ?_
  rw [(funext fun n0 => (funext fun list1 => (funext fun i5 => spec_l2Elements_in2 N n0 list1 i5)))]
  rfl
theorem fn_spec_l2Elements : FnOk Try.prog 109 := ⟨_, Try.func109, by kernel_rfl, by kernel_rfl⟩
theorem good_spec_l2Elements : Gx.Good Try.prog 109 S_spec_l2Elements := good_of_run Try.func109 (of_decide_eq_true (by kernel_rfl)) fun x r h => ⟨A_spec_l2Elements, big, mkCfg_ok tabOk, mkCfg_sigs (show SigsOk Try.prog [(59, S_spec_l1In)] from ⟨⟨fn_spec_l1In, good_spec_l1In⟩, trivial⟩), (run_spec_l2Elements big x).trans h⟩

/-! spec_l30Map -/
def spec_l30Map_s (p_0 : ((List (List Int)) × Unit)) (q_1 : ((List (List Int)) × Unit)) (f_2 : (List Int)) : Option (Bool × Unit) :=
  (spec_l23Good big p_0).bind fun rq1 =>
  cond rq1.1
  ((spec_l23Good big q_1).bind fun rq2 =>
  cond rq2.1
  (cond (decide ((f_2.length : Int) = (p_0.1.length : Int)))
  ((spec_l2Elements big (q_1.1.length : Int) f_2).bind fun rq3 =>
  some (rq3.1, (())))
  (some (false, (()))))
  (some (false, (()))))
  (some (false, (())))
def spec_l30Map (p_0 : ((List (List Int)) × Unit)) (q_1 : ((List (List Int)) × Unit)) (f_2 : (List Int)) : Option (Bool × Unit) := spec_l30Map_s p_0 q_1 f_2
def S_spec_l30Map : Sig := { a := (.pair (.pair (.sl (.sl I)) .unit) (.pair (.pair (.sl (.sl I)) .unit) (.pair (.sl I) .unit))), md := [0, 0, 0], mf := [], m := .unit, r := .bool, rf := .i, f := fun x => spec_l30Map x.1 x.2.1 x.2.2.1 }
def A_spec_l30Map : Cfg := mkCfg tab [(127, S_spec_l23Good), (109, S_spec_l2Elements)] []
theorem run_spec_l30Map (N : Nat) (x : (S_spec_l30Map).a.den) : runF (A_spec_l30Map) N Try.f83 S_spec_l30Map x = spec_l30Map x.1 x.2.1 x.2.2.1 := by kernel_rfl
theorem fn_spec_l30Map : FnOk Try.prog 83 := ⟨_, Try.func83, by kernel_rfl, by kernel_rfl⟩
theorem good_spec_l30Map : Gx.Good Try.prog 83 S_spec_l30Map := good_of_run Try.func83 (of_decide_eq_true (by kernel_rfl)) fun x r h => ⟨A_spec_l30Map, big, mkCfg_ok tabOk, mkCfg_sigs (show SigsOk Try.prog [(127, S_spec_l23Good), (109, S_spec_l2Elements)] from ⟨⟨fn_spec_l23Good, good_spec_l23Good⟩, ⟨fn_spec_l2Elements, good_spec_l2Elements⟩, trivial⟩), (run_spec_l30Map big x).trans h⟩

/-! spec_l30Adjoint -/
def spec_l30Adjoint_b5 (rec : (List Int) → (List Int) → ((List (List Int)) × Unit) → ((List (List Int)) × Unit) → Int → Int → Option (Bool × Unit)) (k : (List Int) → (List Int) → ((List (List Int)) × Unit) → ((List (List Int)) × Unit) → Int → Option (Bool × Unit)) (f2 : (List Int)) (g3 : (List Int)) (p4 : ((List (List Int)) × Unit)) (q5 : ((List (List Int)) × Unit)) (x9 : Int) (y10 : Int) : Option (Bool × Unit) :=
  cond (decide (y10 < (g3.length : Int)))
  ((atI f2 x9).bind fun xq1 =>
  (spec_l23Leq q5 xq1 y10).bind fun rq2 =>
  (atI g3 y10).bind fun xq3 =>
  (spec_l23Leq p4 x9 xq3).bind fun rq4 =>
  cond (rq2.1 != rq4.1)
  (some (false, (())))
  (rec f2 g3 p4 q5 x9 (IntKind.i64.wrap (y10 + (1 : Int)))))
  (k f2 g3 p4 q5 x9)
def spec_l30Adjoint_a5 (rec : (List Int) → (List Int) → ((List (List Int)) × Unit) → ((List (List Int)) × Unit) → Int → Option (Bool × Unit)) (f2 : (List Int)) (g3 : (List Int)) (p4 : ((List (List Int)) × Unit)) (q5 : ((List (List Int)) × Unit)) (x9 : Int) : Option (Bool × Unit) :=
  rec f2 g3 p4 q5 (IntKind.i64.wrap (x9 + (1 : Int)))
def spec_l30Adjoint_b2 (L5 : (List Int) → (List Int) → ((List (List Int)) × Unit) → ((List (List Int)) × Unit) → Int → Int → Option (Bool × Unit)) (k : Option (Bool × Unit)) (f2 : (List Int)) (g3 : (List Int)) (p4 : ((List (List Int)) × Unit)) (q5 : ((List (List Int)) × Unit)) (x9 : Int) : Option (Bool × Unit) :=
  cond (decide (x9 < (f2.length : Int)))
  (L5 f2 g3 p4 q5 x9 (0 : Int))
  (k)
def spec_l30Adjoint_a2 : Option (Bool × Unit) :=
  some (true, (()))
def spec_l30Adjoint_s (L2 : (List Int) → (List Int) → ((List (List Int)) × Unit) → ((List (List Int)) × Unit) → Int → Option (Bool × Unit)) (p_0 : ((List (List Int)) × Unit)) (q_1 : ((List (List Int)) × Unit)) (f_2 : (List Int)) (g_3 : (List Int)) : Option (Bool × Unit) :=
  L2 f_2 g_3 p_0 q_1 (0 : Int)
def spec_l30Adjoint_l5 (N : Nat) (k : (List Int) → (List Int) → ((List (List Int)) × Unit) → ((List (List Int)) × Unit) → Int → Option (Bool × Unit)) : Nat → (List Int) → (List Int) → ((List (List Int)) × Unit) → ((List (List Int)) × Unit) → Int → Int → Option (Bool × Unit)
  | 0, _, _, _, _, _, _ => none
  | m + 1, f2, g3, p4, q5, x9, y10 => spec_l30Adjoint_b5 (spec_l30Adjoint_l5 N k m) k f2 g3 p4 q5 x9 y10
def spec_l30Adjoint_F5 (N : Nat) (rec : (List Int) → (List Int) → ((List (List Int)) × Unit) → ((List (List Int)) × Unit) → Int → Option (Bool × Unit)) (k : Option (Bool × Unit)) (f2 : (List Int)) (g3 : (List Int)) (p4 : ((List (List Int)) × Unit)) (q5 : ((List (List Int)) × Unit)) (x9 : Int) (y10 : Int) : Option (Bool × Unit) := spec_l30Adjoint_l5 N (spec_l30Adjoint_a5 rec) N f2 g3 p4 q5 x9 y10
def spec_l30Adjoint_l2 (N : Nat) (k : Option (Bool × Unit)) : Nat → (List Int) → (List Int) → ((List (List Int)) × Unit) → ((List (List Int)) × Unit) → Int → Option (Bool × Unit)
  | 0, _, _, _, _, _ => none
  | m + 1, f2, g3, p4, q5, x9 => spec_l30Adjoint_b2 (spec_l30Adjoint_F5 N (spec_l30Adjoint_l2 N k m) k) k f2 g3 p4 q5 x9
def spec_l30Adjoint_F2 (N : Nat) (f2 : (List Int)) (g3 : (List Int)) (p4 : ((List (List Int)) × Unit)) (q5 : ((List (List Int)) × Unit)) (x9 : Int) : Option (Bool × Unit) := spec_l30Adjoint_l2 N (spec_l30Adjoint_a2) N f2 g3 p4 q5 x9
def spec_l30Adjoint (N : Nat) (p_0 : ((List (List Int)) × Unit)) (q_1 : ((List (List Int)) × Unit)) (f_2 : (List Int)) (g_3 : (List Int)) : Option (Bool × Unit) := spec_l30Adjoint_s (spec_l30Adjoint_F2 N) p_0 q_1 f_2 g_3
def S_spec_l30Adjoint : Sig := { a := (.pair (.pair (.sl (.sl I)) .unit) (.pair (.pair (.sl (.sl I)) .unit) (.pair (.sl I) (.pair (.sl I) .unit)))), md := [0, 0, 0, 0], mf := [], m := .unit, r := .bool, rf := .i, f := fun x => spec_l30Adjoint big x.1 x.2.1 x.2.2.1 x.2.2.2.1 }
def A_spec_l30Adjoint : Cfg := mkCfg tab [(128, S_spec_l23Leq)] [(4, [.drop, .drop, .as (.sl I) .i, .as (.sl I) .i, .as (.ptr (.pair (.sl (.sl I)) .unit)) (.o .i), .as (.ptr (.pair (.sl (.sl I)) .unit)) (.o .i), .drop, .drop, .drop, .as I .i]), (10, [.drop, .drop, .as (.sl I) .i, .as (.sl I) .i, .as (.ptr (.pair (.sl (.sl I)) .unit)) (.o .i), .as (.ptr (.pair (.sl (.sl I)) .unit)) (.o .i), .drop, .drop, .drop, .as I .i, .as I .i]), (19, []), (7, [.drop, .drop, .as (.sl I) .i, .as (.sl I) .i, .as (.ptr (.pair (.sl (.sl I)) .unit)) (.o .i), .as (.ptr (.pair (.sl (.sl I)) .unit)) (.o .i), .drop, .drop, .drop, .as I .i])]
def spec_l30Adjoint_R2 (cd : Code) (N n : Nat) (K : Ex → St → Option (Bool × Unit)) (f2 : (List Int)) (g3 : (List Int)) (p4 : ((List (List Int)) × Unit)) (q5 : ((List (List Int)) × Unit)) (x9 : Int) : Option (Bool × Unit) := iter ((A_spec_l30Adjoint).shape 4) (run (A_spec_l30Adjoint) N cd) n ([.u, .u, .val (.sl I) .i f2, .val (.sl I) .i g3, .val (.ptr (.pair (.sl (.sl I)) .unit)) (.o .i) p4, .val (.ptr (.pair (.sl (.sl I)) .unit)) (.o .i) q5, .u, .u, .u, .val I .i x9] ++ List.replicate 28 .u) K
def spec_l30Adjoint_R5 (cd : Code) (N n : Nat) (K : Ex → St → Option (Bool × Unit)) (f2 : (List Int)) (g3 : (List Int)) (p4 : ((List (List Int)) × Unit)) (q5 : ((List (List Int)) × Unit)) (x9 : Int) (y10 : Int) : Option (Bool × Unit) := iter ((A_spec_l30Adjoint).shape 10) (run (A_spec_l30Adjoint) N cd) n ([.u, .u, .val (.sl I) .i f2, .val (.sl I) .i g3, .val (.ptr (.pair (.sl (.sl I)) .unit)) (.o .i) p4, .val (.ptr (.pair (.sl (.sl I)) .unit)) (.o .i) q5, .u, .u, .u, .val I .i x9, .val I .i y10] ++ List.replicate 27 .u) K
theorem spec_l30Adjoint_step5 (N : Nat) (m : Nat) (kX : St → Option (Bool × Unit)) (kO : Nat → St → Option (Bool × Unit)) (f2 : (List Int)) (g3 : (List Int)) (p4 : ((List (List Int)) × Unit)) (q5 : ((List (List Int)) × Unit)) (x9 : Int) (y10 : Int) : spec_l30Adjoint_R5 (codeAt Try.f84 [1, 0, 1, 0, 0, 1, 0, 0, 1, 0, 0]) N (m + 1) (exK (finish (A_spec_l30Adjoint) S_spec_l30Adjoint Try.f84.results.toList) 2 ((A_spec_l30Adjoint).shape 7) kX kO) f2 g3 p4 q5 x9 y10 = spec_l30Adjoint_b5 (spec_l30Adjoint_R5 (codeAt Try.f84 [1, 0, 1, 0, 0, 1, 0, 0, 1, 0, 0]) N m (exK (finish (A_spec_l30Adjoint) S_spec_l30Adjoint Try.f84.results.toList) 2 ((A_spec_l30Adjoint).shape 7) kX kO)) (fun (f2 : (List Int)) (g3 : (List Int)) (p4 : ((List (List Int)) × Unit)) (q5 : ((List (List Int)) × Unit)) (x9 : Int) => kX ([.u, .u, .val (.sl I) .i f2, .val (.sl I) .i g3, .val (.ptr (.pair (.sl (.sl I)) .unit)) (.o .i) p4, .val (.ptr (.pair (.sl (.sl I)) .unit)) (.o .i) q5, .u, .u, .u, .val I .i x9] ++ List.replicate 28 .u)) f2 g3 p4 q5 x9 y10 := by kernel_rfl
theorem spec_l30Adjoint_iter5 (N : Nat) (kX : St → Option (Bool × Unit)) (kO : Nat → St → Option (Bool × Unit)) : ∀ (n : Nat) (f2 : (List Int)) (g3 : (List Int)) (p4 : ((List (List Int)) × Unit)) (q5 : ((List (List Int)) × Unit)) (x9 : Int) (y10 : Int), spec_l30Adjoint_R5 (codeAt Try.f84 [1, 0, 1, 0, 0, 1, 0, 0, 1, 0, 0]) N n (exK (finish (A_spec_l30Adjoint) S_spec_l30Adjoint Try.f84.results.toList) 2 ((A_spec_l30Adjoint).shape 7) kX kO) f2 g3 p4 q5 x9 y10 = spec_l30Adjoint_l5 N (fun (f2 : (List Int)) (g3 : (List Int)) (p4 : ((List (List Int)) × Unit)) (q5 : ((List (List Int)) × Unit)) (x9 : Int) => kX ([.u, .u, .val (.sl I) .i f2, .val (.sl I) .i g3, .val (.ptr (.pair (.sl (.sl I)) .unit)) (.o .i) p4, .val (.ptr (.pair (.sl (.sl I)) .unit)) (.o .i) q5, .u, .u, .u, .val I .i x9] ++ List.replicate 28 .u)) n f2 g3 p4 q5 x9 y10
  | 0, _, _, _, _, _, _ => rfl
  | m + 1, f2, g3, p4, q5, x9, y10 => by
    have hrec : spec_l30Adjoint_R5 (codeAt Try.f84 [1, 0, 1, 0, 0, 1, 0, 0, 1, 0, 0]) N m (exK (finish (A_spec_l30Adjoint) S_spec_l30Adjoint Try.f84.results.toList) 2 ((A_spec_l30Adjoint).shape 7) kX kO) = (spec_l30Adjoint_l5 N (fun (f2 : (List Int)) (g3 : (List Int)) (p4 : ((List (List Int)) × Unit)) (q5 : ((List (List Int)) × Unit)) (x9 : Int) => kX ([.u, .u, .val (.sl I) .i f2, .val (.sl I) .i g3, .val (.ptr (.pair (.sl (.sl I)) .unit)) (.o .i) p4, .val (.ptr (.pair (.sl (.sl I)) .unit)) (.o .i) q5, .u, .u, .u, .val I .i x9] ++ List.replicate 28 .u)) m) := (funext fun f2 => (funext fun g3 => (funext fun p4 => (funext fun q5 => (funext fun x9 => (funext fun y10 => spec_l30Adjoint_iter5 N kX kO m f2 g3 p4 q5 x9 y10))))))
    refine (spec_l30Adjoint_step5 N m kX kO f2 g3 p4 q5 x9 y10).trans ?_
    rw [hrec]
    rfl
theorem spec_l30Adjoint_after5 (N : Nat) (m : Nat) (kX : St → Option (Bool × Unit)) (kO : Nat → St → Option (Bool × Unit)) (f2 : (List Int)) (g3 : (List Int)) (p4 : ((List (List Int)) × Unit)) (q5 : ((List (List Int)) × Unit)) (x9 : Int) : (fun st' => run (A_spec_l30Adjoint) N (codeAt Try.f84 [1, 0, 1, 0, 0, 1, 1]) st' (iterK ((A_spec_l30Adjoint).shape 4) (run (A_spec_l30Adjoint) N (codeAt Try.f84 [1, 0, 1, 0, 0])) m (exK (finish (A_spec_l30Adjoint) S_spec_l30Adjoint Try.f84.results.toList) 0 ((A_spec_l30Adjoint).shape 19) kX kO))) ([.u, .u, .val (.sl I) .i f2, .val (.sl I) .i g3, .val (.ptr (.pair (.sl (.sl I)) .unit)) (.o .i) p4, .val (.ptr (.pair (.sl (.sl I)) .unit)) (.o .i) q5, .u, .u, .u, .val I .i x9] ++ List.replicate 28 .u) = spec_l30Adjoint_a5 (spec_l30Adjoint_R2 (codeAt Try.f84 [1, 0, 1, 0, 0]) N m (exK (finish (A_spec_l30Adjoint) S_spec_l30Adjoint Try.f84.results.toList) 0 ((A_spec_l30Adjoint).shape 19) kX kO)) f2 g3 p4 q5 x9 := by kernel_rfl
theorem spec_l30Adjoint_in5 (N : Nat) (m : Nat) (kX : St → Option (Bool × Unit)) (kO : Nat → St → Option (Bool × Unit)) (recF : (List Int) → (List Int) → ((List (List Int)) × Unit) → ((List (List Int)) × Unit) → Int → Option (Bool × Unit)) (hrec : spec_l30Adjoint_R2 (codeAt Try.f84 [1, 0, 1, 0, 0]) N m (exK (finish (A_spec_l30Adjoint) S_spec_l30Adjoint Try.f84.results.toList) 0 ((A_spec_l30Adjoint).shape 19) kX kO) = recF) (f2 : (List Int)) (g3 : (List Int)) (p4 : ((List (List Int)) × Unit)) (q5 : ((List (List Int)) × Unit)) (x9 : Int) (y10 : Int) : spec_l30Adjoint_R5 (codeAt Try.f84 [1, 0, 1, 0, 0, 1, 0, 0, 1, 0, 0]) N N (blockK 2 (blockK 1 (seqK ((A_spec_l30Adjoint).shape 7) (run (A_spec_l30Adjoint) N (codeAt Try.f84 [1, 0, 1, 0, 0, 1, 1])) (iterK ((A_spec_l30Adjoint).shape 4) (run (A_spec_l30Adjoint) N (codeAt Try.f84 [1, 0, 1, 0, 0])) m (exK (finish (A_spec_l30Adjoint) S_spec_l30Adjoint Try.f84.results.toList) 0 ((A_spec_l30Adjoint).shape 19) kX kO))))) f2 g3 p4 q5 x9 y10 = spec_l30Adjoint_F5 N recF (kX ([] ++ List.replicate 38 .u)) f2 g3 p4 q5 x9 y10 :=
  have h : (fun (f2 : (List Int)) (g3 : (List Int)) (p4 : ((List (List Int)) × Unit)) (q5 : ((List (List Int)) × Unit)) (x9 : Int) => (fun st' => run (A_spec_l30Adjoint) N (codeAt Try.f84 [1, 0, 1, 0, 0, 1, 1]) st' (iterK ((A_spec_l30Adjoint).shape 4) (run (A_spec_l30Adjoint) N (codeAt Try.f84 [1, 0, 1, 0, 0])) m (exK (finish (A_spec_l30Adjoint) S_spec_l30Adjoint Try.f84.results.toList) 0 ((A_spec_l30Adjoint).shape 19) kX kO))) ([.u, .u, .val (.sl I) .i f2, .val (.sl I) .i g3, .val (.ptr (.pair (.sl (.sl I)) .unit)) (.o .i) p4, .val (.ptr (.pair (.sl (.sl I)) .unit)) (.o .i) q5, .u, .u, .u, .val I .i x9] ++ List.replicate 28 .u)) = (spec_l30Adjoint_a5 recF) := (funext fun f2 => (funext fun g3 => (funext fun p4 => (funext fun q5 => (funext fun x9 => (spec_l30Adjoint_after5 N m kX kO f2 g3 p4 q5 x9).trans (by rw [hrec]))))))
  have e : spec_l30Adjoint_R5 (codeAt Try.f84 [1, 0, 1, 0, 0, 1, 0, 0, 1, 0, 0]) N N (blockK 2 (blockK 1 (seqK ((A_spec_l30Adjoint).shape 7) (run (A_spec_l30Adjoint) N (codeAt Try.f84 [1, 0, 1, 0, 0, 1, 1])) (iterK ((A_spec_l30Adjoint).shape 4) (run (A_spec_l30Adjoint) N (codeAt Try.f84 [1, 0, 1, 0, 0])) m (exK (finish (A_spec_l30Adjoint) S_spec_l30Adjoint Try.f84.results.toList) 0 ((A_spec_l30Adjoint).shape 19) kX kO))))) f2 g3 p4 q5 x9 y10 = spec_l30Adjoint_R5 (codeAt Try.f84 [1, 0, 1, 0, 0, 1, 0, 0, 1, 0, 0]) N N (exK (finish (A_spec_l30Adjoint) S_spec_l30Adjoint Try.f84.results.toList) 2 ((A_spec_l30Adjoint).shape 7) (fun st' => run (A_spec_l30Adjoint) N (codeAt Try.f84 [1, 0, 1, 0, 0, 1, 1]) st' (iterK ((A_spec_l30Adjoint).shape 4) (run (A_spec_l30Adjoint) N (codeAt Try.f84 [1, 0, 1, 0, 0])) m (exK (finish (A_spec_l30Adjoint) S_spec_l30Adjoint Try.f84.results.toList) 0 ((A_spec_l30Adjoint).shape 19) kX kO))) (fun j st => (blockK 2 (blockK 1 (seqK ((A_spec_l30Adjoint).shape 7) (run (A_spec_l30Adjoint) N (codeAt Try.f84 [1, 0, 1, 0, 0, 1, 1])) (iterK ((A_spec_l30Adjoint).shape 4) (run (A_spec_l30Adjoint) N (codeAt Try.f84 [1, 0, 1, 0, 0])) m (exK (finish (A_spec_l30Adjoint) S_spec_l30Adjoint Try.f84.results.toList) 0 ((A_spec_l30Adjoint).shape 19) kX kO))))) (.exit j) st)) f2 g3 p4 q5 x9 y10 := iter_ex (fun st => by kernel_rfl) (fun st => by kernel_rfl)
  (e.trans (spec_l30Adjoint_iter5 N (fun st' => run (A_spec_l30Adjoint) N (codeAt Try.f84 [1, 0, 1, 0, 0, 1, 1]) st' (iterK ((A_spec_l30Adjoint).shape 4) (run (A_spec_l30Adjoint) N (codeAt Try.f84 [1, 0, 1, 0, 0])) m (exK (finish (A_spec_l30Adjoint) S_spec_l30Adjoint Try.f84.results.toList) 0 ((A_spec_l30Adjoint).shape 19) kX kO))) (fun j st => (blockK 2 (blockK 1 (seqK ((A_spec_l30Adjoint).shape 7) (run (A_spec_l30Adjoint) N (codeAt Try.f84 [1, 0, 1, 0, 0, 1, 1])) (iterK ((A_spec_l30Adjoint).shape 4) (run (A_spec_l30Adjoint) N (codeAt Try.f84 [1, 0, 1, 0, 0])) m (exK (finish (A_spec_l30Adjoint) S_spec_l30Adjoint Try.f84.results.toList) 0 ((A_spec_l30Adjoint).shape 19) kX kO))))) (.exit j) st) N f2 g3 p4 q5 x9 y10)).trans (congrArg (fun k => spec_l30Adjoint_l5 N k N f2 g3 p4 q5 x9 y10) h)
theorem spec_l30Adjoint_step2 (N : Nat) (m : Nat) (kX : St → Option (Bool × Unit)) (kO : Nat → St → Option (Bool × Unit)) (f2 : (List Int)) (g3 : (List Int)) (p4 : ((List (List Int)) × Unit)) (q5 : ((List (List Int)) × Unit)) (x9 : Int) : spec_l30Adjoint_R2 (codeAt Try.f84 [1, 0, 1, 0, 0]) N (m + 1) (exK (finish (A_spec_l30Adjoint) S_spec_l30Adjoint Try.f84.results.toList) 0 ((A_spec_l30Adjoint).shape 19) kX kO) f2 g3 p4 q5 x9 = spec_l30Adjoint_b2 (spec_l30Adjoint_R5 (codeAt Try.f84 [1, 0, 1, 0, 0, 1, 0, 0, 1, 0, 0]) N N (blockK 2 (blockK 1 (seqK ((A_spec_l30Adjoint).shape 7) (run (A_spec_l30Adjoint) N (codeAt Try.f84 [1, 0, 1, 0, 0, 1, 1])) (iterK ((A_spec_l30Adjoint).shape 4) (run (A_spec_l30Adjoint) N (codeAt Try.f84 [1, 0, 1, 0, 0])) m (exK (finish (A_spec_l30Adjoint) S_spec_l30Adjoint Try.f84.results.toList) 0 ((A_spec_l30Adjoint).shape 19) kX kO)))))) (kX ([] ++ List.replicate 38 .u)) f2 g3 p4 q5 x9 := by kernel_rfl
theorem spec_l30Adjoint_iter2 (N : Nat) (kX : St → Option (Bool × Unit)) (kO : Nat → St → Option (Bool × Unit)) : ∀ (n : Nat) (f2 : (List Int)) (g3 : (List Int)) (p4 : ((List (List Int)) × Unit)) (q5 : ((List (List Int)) × Unit)) (x9 : Int), spec_l30Adjoint_R2 (codeAt Try.f84 [1, 0, 1, 0, 0]) N n (exK (finish (A_spec_l30Adjoint) S_spec_l30Adjoint Try.f84.results.toList) 0 ((A_spec_l30Adjoint).shape 19) kX kO) f2 g3 p4 q5 x9 = spec_l30Adjoint_l2 N (kX ([] ++ List.replicate 38 .u)) n f2 g3 p4 q5 x9
  | 0, _, _, _, _, _ => rfl
  | m + 1, f2, g3, p4, q5, x9 => by
    have hrec : spec_l30Adjoint_R2 (codeAt Try.f84 [1, 0, 1, 0, 0]) N m (exK (finish (A_spec_l30Adjoint) S_spec_l30Adjoint Try.f84.results.toList) 0 ((A_spec_l30Adjoint).shape 19) kX kO) = (spec_l30Adjoint_l2 N (kX ([] ++ List.replicate 38 .u)) m) := (funext fun f2 => (funext fun g3 => (funext fun p4 => (funext fun q5 => (funext fun x9 => spec_l30Adjoint_iter2 N kX kO m f2 g3 p4 q5 x9)))))
    refine (spec_l30Adjoint_step2 N m kX kO f2 g3 p4 q5 x9).trans ?_
    rw [(funext fun f2 => (funext fun g3 => (funext fun p4 => (funext fun q5 => (funext fun x9 => (funext fun y10 => spec_l30Adjoint_in5 N m kX kO (spec_l30Adjoint_l2 N (kX ([] ++ List.replicate 38 .u)) m) hrec f2 g3 p4 q5 x9 y10))))))]
    rfl
theorem spec_l30Adjoint_after2 (N : Nat) : (fun st' => run (A_spec_l30Adjoint) N (codeAt Try.f84 [1, 1]) st' (finish (A_spec_l30Adjoint) S_spec_l30Adjoint Try.f84.results.toList)) ([] ++ List.replicate 38 .u) = spec_l30Adjoint_a2 := by kernel_rfl
theorem spec_l30Adjoint_in2 (N : Nat) (f2 : (List Int)) (g3 : (List Int)) (p4 : ((List (List Int)) × Unit)) (q5 : ((List (List Int)) × Unit)) (x9 : Int) : spec_l30Adjoint_R2 (codeAt Try.f84 [1, 0, 1, 0, 0]) N N (blockK 0 (seqK ((A_spec_l30Adjoint).shape 19) (run (A_spec_l30Adjoint) N (codeAt Try.f84 [1, 1])) (finish (A_spec_l30Adjoint) S_spec_l30Adjoint Try.f84.results.toList))) f2 g3 p4 q5 x9 = spec_l30Adjoint_F2 N f2 g3 p4 q5 x9 :=
  have h : ((fun st' => run (A_spec_l30Adjoint) N (codeAt Try.f84 [1, 1]) st' (finish (A_spec_l30Adjoint) S_spec_l30Adjoint Try.f84.results.toList)) ([] ++ List.replicate 38 .u)) = (spec_l30Adjoint_a2) := spec_l30Adjoint_after2 N
  have e : spec_l30Adjoint_R2 (codeAt Try.f84 [1, 0, 1, 0, 0]) N N (blockK 0 (seqK ((A_spec_l30Adjoint).shape 19) (run (A_spec_l30Adjoint) N (codeAt Try.f84 [1, 1])) (finish (A_spec_l30Adjoint) S_spec_l30Adjoint Try.f84.results.toList))) f2 g3 p4 q5 x9 = spec_l30Adjoint_R2 (codeAt Try.f84 [1, 0, 1, 0, 0]) N N (exK (finish (A_spec_l30Adjoint) S_spec_l30Adjoint Try.f84.results.toList) 0 ((A_spec_l30Adjoint).shape 19) (fun st' => run (A_spec_l30Adjoint) N (codeAt Try.f84 [1, 1]) st' (finish (A_spec_l30Adjoint) S_spec_l30Adjoint Try.f84.results.toList)) (fun j st => (blockK 0 (seqK ((A_spec_l30Adjoint).shape 19) (run (A_spec_l30Adjoint) N (codeAt Try.f84 [1, 1])) (finish (A_spec_l30Adjoint) S_spec_l30Adjoint Try.f84.results.toList))) (.exit j) st)) f2 g3 p4 q5 x9 := iter_ex (fun st => by kernel_rfl) (fun st => by kernel_rfl)
  (e.trans (spec_l30Adjoint_iter2 N (fun st' => run (A_spec_l30Adjoint) N (codeAt Try.f84 [1, 1]) st' (finish (A_spec_l30Adjoint) S_spec_l30Adjoint Try.f84.results.toList)) (fun j st => (blockK 0 (seqK ((A_spec_l30Adjoint).shape 19) (run (A_spec_l30Adjoint) N (codeAt Try.f84 [1, 1])) (finish (A_spec_l30Adjoint) S_spec_l30Adjoint Try.f84.results.toList))) (.exit j) st) N f2 g3 p4 q5 x9)).trans (congrArg (fun k => spec_l30Adjoint_l2 N k N f2 g3 p4 q5 x9) h)
theorem run0_spec_l30Adjoint (N : Nat) (x : (S_spec_l30Adjoint).a.den) : runF (A_spec_l30Adjoint) N Try.f84 S_spec_l30Adjoint x = (spec_l30Adjoint_s (spec_l30Adjoint_R2 (codeAt Try.f84 [1, 0, 1, 0, 0]) N N (blockK 0 (seqK ((A_spec_l30Adjoint).shape 19) (run (A_spec_l30Adjoint) N (codeAt Try.f84 [1, 1])) (finish (A_spec_l30Adjoint) S_spec_l30Adjoint Try.f84.results.toList)))) x.1 x.2.1 x.2.2.1 x.2.2.2.1) := by kernel_rfl
theorem run_spec_l30Adjoint (N : Nat) (x : (S_spec_l30Adjoint).a.den) : runF (A_spec_l30Adjoint) N Try.f84 S_spec_l30Adjoint x = spec_l30Adjoint N x.1 x.2.1 x.2.2.1 x.2.2.2.1 := by
  refine (run0_spec_l30Adjoint N x).trans ?_
  rw [(funext fun f2 => (funext fun g3 => (funext fun p4 => (funext fun q5 => (funext fun x9 => spec_l30Adjoint_in2 N f2 g3 p4 q5 x9)))))]
  rfl
theorem fn_spec_l30Adjoint : FnOk Try.prog 84 := ⟨_, Try.func84, by kernel_rfl, by kernel_rfl⟩
theorem good_spec_l30Adjoint : Gx.Good Try.prog 84 S_spec_l30Adjoint := good_of_run Try.func84 (of_decide_eq_true (by kernel_rfl)) fun x r h => ⟨A_spec_l30Adjoint, big, mkCfg_ok tabOk, mkCfg_sigs (show SigsOk Try.prog [(128, S_spec_l23Leq)] from ⟨⟨fn_spec_l23Leq, good_spec_l23Leq⟩, trivial⟩), (run_spec_l30Adjoint big x).trans h⟩

/-! spec_IsAdjointPair -/
def spec_IsAdjointPair_s (p_0 : ((List (List Int)) × Unit)) (q_1 : ((List (List Int)) × Unit)) (f_2 : (List Int)) (g_3 : (List Int)) : Option ((Bool × (Bool × Unit)) × Unit) :=
  (spec_l30Map p_0 q_1 f_2).bind fun rq1 =>
  cond (!rq1.1)
  (some ((false, false, ()), (())))
  ((spec_l30Map q_1 p_0 g_3).bind fun rq2 =>
  cond (!rq2.1)
  (some ((false, false, ()), (())))
  ((spec_l30Adjoint big p_0 q_1 f_2 g_3).bind fun rq3 =>
  some ((rq3.1, true, ()), (()))))
def spec_IsAdjointPair (p_0 : ((List (List Int)) × Unit)) (q_1 : ((List (List Int)) × Unit)) (f_2 : (List Int)) (g_3 : (List Int)) : Option ((Bool × (Bool × Unit)) × Unit) := spec_IsAdjointPair_s p_0 q_1 f_2 g_3
def S_spec_IsAdjointPair : Sig := { a := (.pair (.pair (.sl (.sl I)) .unit) (.pair (.pair (.sl (.sl I)) .unit) (.pair (.sl I) (.pair (.sl I) .unit)))), md := [0, 0, 0, 0], mf := [], m := .unit, r := (.tup (.pair .bool (.pair .bool .unit))), rf := .i, f := fun x => spec_IsAdjointPair x.1 x.2.1 x.2.2.1 x.2.2.2.1 }
def A_spec_IsAdjointPair : Cfg := mkCfg tab [(83, S_spec_l30Map), (84, S_spec_l30Adjoint)] []
theorem run_spec_IsAdjointPair (N : Nat) (x : (S_spec_IsAdjointPair).a.den) : runF (A_spec_IsAdjointPair) N Try.f40 S_spec_IsAdjointPair x = spec_IsAdjointPair x.1 x.2.1 x.2.2.1 x.2.2.2.1 := by kernel_rfl
theorem fn_spec_IsAdjointPair : FnOk Try.prog 40 := ⟨_, Try.func40, by kernel_rfl, by kernel_rfl⟩
theorem good_spec_IsAdjointPair : Gx.Good Try.prog 40 S_spec_IsAdjointPair := good_of_run Try.func40 (of_decide_eq_true (by kernel_rfl)) fun x r h => ⟨A_spec_IsAdjointPair, big, mkCfg_ok tabOk, mkCfg_sigs (show SigsOk Try.prog [(83, S_spec_l30Map), (84, S_spec_l30Adjoint)] from ⟨⟨fn_spec_l30Map, good_spec_l30Map⟩, ⟨fn_spec_l30Adjoint, good_spec_l30Adjoint⟩, trivial⟩), (run_spec_IsAdjointPair big x).trans h⟩

/-! impl_twoOrders -/
def impl_twoOrders_s (p_0 : ((List (List Int)) × Unit)) (q_1 : ((List (List Int)) × Unit)) : Option (((List (List Bool)) × ((List (List Bool)) × (Bool × Unit))) × Unit) :=
  (impl_orderOf big p_0).bind fun rq1 =>
  (impl_orderOf big q_1).bind fun rq2 =>
  cond ((((), rq1.1.2).2).1)
  (some ((rq1.1.1, rq2.1.1, (((), rq2.1.2).2).1, ()), (())))
  (some ((rq1.1.1, rq2.1.1, false, ()), (())))
def impl_twoOrders (p_0 : ((List (List Int)) × Unit)) (q_1 : ((List (List Int)) × Unit)) : Option (((List (List Bool)) × ((List (List Bool)) × (Bool × Unit))) × Unit) := impl_twoOrders_s p_0 q_1
def S_impl_twoOrders : Sig := { a := (.pair (.pair (.sl (.sl I)) .unit) (.pair (.pair (.sl (.sl I)) .unit) .unit)), md := [0, 0], mf := [], m := .unit, r := (.tup (.pair (.sl (.sl .bool)) (.pair (.sl (.sl .bool)) (.pair .bool .unit)))), rf := (.p (.o (.o .i)) (.p (.o (.o .i)) .i)), f := fun x => impl_twoOrders x.1 x.2.1 }
def A_impl_twoOrders : Cfg := mkCfg tab [(129, S_impl_orderOf)] []
theorem run_impl_twoOrders (N : Nat) (x : (S_impl_twoOrders).a.den) : runF (A_impl_twoOrders) N Try.f86 S_impl_twoOrders x = impl_twoOrders x.1 x.2.1 := by kernel_rfl
theorem fn_impl_twoOrders : FnOk Try.prog 86 := ⟨_, Try.func86, by kernel_rfl, by kernel_rfl⟩
theorem good_impl_twoOrders : Gx.Good Try.prog 86 S_impl_twoOrders := good_of_run Try.func86 (of_decide_eq_true (by kernel_rfl)) fun x r h => ⟨A_impl_twoOrders, big, mkCfg_ok tabOk, mkCfg_sigs (show SigsOk Try.prog [(129, S_impl_orderOf)] from ⟨⟨fn_impl_orderOf, good_impl_orderOf⟩, trivial⟩), (run_impl_twoOrders big x).trans h⟩

/-! impl_isPosetMap -/
def impl_isPosetMap_s (o_0 : (List (List Bool))) (r_1 : (List (List Bool))) (f_2 : (List Int)) : Option (Bool × Unit) :=
  cond (decide ((f_2.length : Int) = (o_0.length : Int)))
  ((impl_order_has r_1 f_2).bind fun rq1 =>
  some (rq1.1, (())))
  (some (false, (())))
def impl_isPosetMap (o_0 : (List (List Bool))) (r_1 : (List (List Bool))) (f_2 : (List Int)) : Option (Bool × Unit) := impl_isPosetMap_s o_0 r_1 f_2
def S_impl_isPosetMap : Sig := { a := (.pair (.sl (.sl .bool)) (.pair (.sl (.sl .bool)) (.pair (.sl I) .unit))), md := [0, 0, 0], mf := [], m := .unit, r := .bool, rf := .i, f := fun x => impl_isPosetMap x.1 x.2.1 x.2.2.1 }
def A_impl_isPosetMap : Cfg := mkCfg tab [(92, S_impl_order_has)] []
theorem run_impl_isPosetMap (N : Nat) (x : (S_impl_isPosetMap).a.den) : runF (A_impl_isPosetMap) N Try.f87 S_impl_isPosetMap x = impl_isPosetMap x.1 x.2.1 x.2.2.1 := by kernel_rfl
theorem fn_impl_isPosetMap : FnOk Try.prog 87 := ⟨_, Try.func87, by kernel_rfl, by kernel_rfl⟩
theorem good_impl_isPosetMap : Gx.Good Try.prog 87 S_impl_isPosetMap := good_of_run Try.func87 (of_decide_eq_true (by kernel_rfl)) fun x r h => ⟨A_impl_isPosetMap, big, mkCfg_ok tabOk, mkCfg_sigs (show SigsOk Try.prog [(92, S_impl_order_has)] from ⟨⟨fn_impl_order_has, good_impl_order_has⟩, trivial⟩), (run_impl_isPosetMap big x).trans h⟩

/-! impl_adjoint -/
def impl_adjoint_b5 (rec : (List (List Bool)) → (List (List Bool)) → (List Int) → (List Int) → Int → Int → Int → Int → Int → Option (Bool × Unit)) (k : (List (List Bool)) → (List (List Bool)) → (List Int) → (List Int) → Int → Int → Option (Bool × Unit)) (o0 : (List (List Bool))) (r1 : (List (List Bool))) (f2 : (List Int)) (g3 : (List Int)) (x9 : Int) (t12 : Int) (t13 : Int) (t17 : Int) (t18 : Int) : Option (Bool × Unit) :=
  cond (decide (t18 < t17))
  ((atI f2 x9).bind fun xq1 =>
  (atI r1 xq1).bind fun xq2 =>
  (atI xq2 t18).bind fun xq3 =>
  (atI o0 x9).bind fun xq4 =>
  (atI g3 t18).bind fun xq5 =>
  (atI xq4 xq5).bind fun xq6 =>
  cond (xq3 != xq6)
  (some (false, (())))
  (rec o0 r1 f2 g3 x9 t12 t13 t17 (IntKind.i64.wrap (t18 + (1 : Int)))))
  (k o0 r1 f2 g3 t12 t13)
def impl_adjoint_a5 (rec : (List (List Bool)) → (List (List Bool)) → (List Int) → (List Int) → Int → Int → Option (Bool × Unit)) (o0 : (List (List Bool))) (r1 : (List (List Bool))) (f2 : (List Int)) (g3 : (List Int)) (t12 : Int) (t13 : Int) : Option (Bool × Unit) :=
  rec o0 r1 f2 g3 t12 (IntKind.i64.wrap (t13 + (1 : Int)))
def impl_adjoint_b2 (L5 : (List (List Bool)) → (List (List Bool)) → (List Int) → (List Int) → Int → Int → Int → Int → Int → Option (Bool × Unit)) (k : Option (Bool × Unit)) (o0 : (List (List Bool))) (r1 : (List (List Bool))) (f2 : (List Int)) (g3 : (List Int)) (t12 : Int) (t13 : Int) : Option (Bool × Unit) :=
  cond (decide (t13 < t12))
  (L5 o0 r1 f2 g3 t13 t12 t13 (r1.length : Int) (0 : Int))
  (k)
def impl_adjoint_a2 : Option (Bool × Unit) :=
  some (true, (()))
def impl_adjoint_s (L2 : (List (List Bool)) → (List (List Bool)) → (List Int) → (List Int) → Int → Int → Option (Bool × Unit)) (o_0 : (List (List Bool))) (r_1 : (List (List Bool))) (f_2 : (List Int)) (g_3 : (List Int)) : Option (Bool × Unit) :=
  L2 o_0 r_1 f_2 g_3 (o_0.length : Int) (0 : Int)
def impl_adjoint_l5 (N : Nat) (k : (List (List Bool)) → (List (List Bool)) → (List Int) → (List Int) → Int → Int → Option (Bool × Unit)) : Nat → (List (List Bool)) → (List (List Bool)) → (List Int) → (List Int) → Int → Int → Int → Int → Int → Option (Bool × Unit)
  | 0, _, _, _, _, _, _, _, _, _ => none
  | m + 1, o0, r1, f2, g3, x9, t12, t13, t17, t18 => impl_adjoint_b5 (impl_adjoint_l5 N k m) k o0 r1 f2 g3 x9 t12 t13 t17 t18
def impl_adjoint_F5 (N : Nat) (rec : (List (List Bool)) → (List (List Bool)) → (List Int) → (List Int) → Int → Int → Option (Bool × Unit)) (k : Option (Bool × Unit)) (o0 : (List (List Bool))) (r1 : (List (List Bool))) (f2 : (List Int)) (g3 : (List Int)) (x9 : Int) (t12 : Int) (t13 : Int) (t17 : Int) (t18 : Int) : Option (Bool × Unit) := impl_adjoint_l5 N (impl_adjoint_a5 rec) N o0 r1 f2 g3 x9 t12 t13 t17 t18
def impl_adjoint_l2 (N : Nat) (k : Option (Bool × Unit)) : Nat → (List (List Bool)) → (List (List Bool)) → (List Int) → (List Int) → Int → Int → Option (Bool × Unit)
  | 0, _, _, _, _, _, _ => none
  | m + 1, o0, r1, f2, g3, t12, t13 => impl_adjoint_b2 (impl_adjoint_F5 N (impl_adjoint_l2 N k m) k) k o0 r1 f2 g3 t12 t13
def impl_adjoint_F2 (N : Nat) (o0 : (List (List Bool))) (r1 : (List (List Bool))) (f2 : (List Int)) (g3 : (List Int)) (t12 : Int) (t13 : Int) : Option (Bool × Unit) := impl_adjoint_l2 N (impl_adjoint_a2) N o0 r1 f2 g3 t12 t13
def impl_adjoint (N : Nat) (o_0 : (List (List Bool))) (r_1 : (List (List Bool))) (f_2 : (List Int)) (g_3 : (List Int)) : Option (Bool × Unit) := impl_adjoint_s (impl_adjoint_F2 N) o_0 r_1 f_2 g_3
def S_impl_adjoint : Sig := { a := (.pair (.sl (.sl .bool)) (.pair (.sl (.sl .bool)) (.pair (.sl I) (.pair (.sl I) .unit)))), md := [0, 0, 0, 0], mf := [], m := .unit, r := .bool, rf := .i, f := fun x => impl_adjoint big x.1 x.2.1 x.2.2.1 x.2.2.2.1 }
def A_impl_adjoint : Cfg := mkCfg tab [] [(4, [.as (.sl (.sl .bool)) .i, .as (.sl (.sl .bool)) .i, .as (.sl I) .i, .as (.sl I) .i, .drop, .drop, .drop, .drop, .drop, .drop, .drop, .drop, .as I .i, .as I .i]), (10, [.as (.sl (.sl .bool)) .i, .as (.sl (.sl .bool)) .i, .as (.sl I) .i, .as (.sl I) .i, .drop, .drop, .drop, .drop, .drop, .as I .i, .drop, .drop, .as I .i, .as I .i, .drop, .drop, .drop, .as I .i, .as I .i]), (23, []), (21, [.as (.sl (.sl .bool)) .i, .as (.sl (.sl .bool)) .i, .as (.sl I) .i, .as (.sl I) .i, .drop, .drop, .drop, .drop, .drop, .drop, .drop, .drop, .as I .i, .as I .i])]
def impl_adjoint_R2 (cd : Code) (N n : Nat) (K : Ex → St → Option (Bool × Unit)) (o0 : (List (List Bool))) (r1 : (List (List Bool))) (f2 : (List Int)) (g3 : (List Int)) (t12 : Int) (t13 : Int) : Option (Bool × Unit) := iter ((A_impl_adjoint).shape 4) (run (A_impl_adjoint) N cd) n ([.val (.sl (.sl .bool)) .i o0, .val (.sl (.sl .bool)) .i r1, .val (.sl I) .i f2, .val (.sl I) .i g3, .u, .u, .u, .u, .u, .u, .u, .u, .val I .i t12, .val I .i t13] ++ List.replicate 30 .u) K
def impl_adjoint_R5 (cd : Code) (N n : Nat) (K : Ex → St → Option (Bool × Unit)) (o0 : (List (List Bool))) (r1 : (List (List Bool))) (f2 : (List Int)) (g3 : (List Int)) (x9 : Int) (t12 : Int) (t13 : Int) (t17 : Int) (t18 : Int) : Option (Bool × Unit) := iter ((A_impl_adjoint).shape 10) (run (A_impl_adjoint) N cd) n ([.val (.sl (.sl .bool)) .i o0, .val (.sl (.sl .bool)) .i r1, .val (.sl I) .i f2, .val (.sl I) .i g3, .u, .u, .u, .u, .u, .val I .i x9, .u, .u, .val I .i t12, .val I .i t13, .u, .u, .u, .val I .i t17, .val I .i t18] ++ List.replicate 25 .u) K
theorem impl_adjoint_step5 (N : Nat) (m : Nat) (kX : St → Option (Bool × Unit)) (kO : Nat → St → Option (Bool × Unit)) (o0 : (List (List Bool))) (r1 : (List (List Bool))) (f2 : (List Int)) (g3 : (List Int)) (x9 : Int) (t12 : Int) (t13 : Int) (t17 : Int) (t18 : Int) : impl_adjoint_R5 (codeAt Try.f88 [1, 0, 1, 0, 0, 1, 1, 0, 0, 1, 1, 0, 0]) N (m + 1) (exK (finish (A_impl_adjoint) S_impl_adjoint Try.f88.results.toList) 2 ((A_impl_adjoint).shape 21) kX kO) o0 r1 f2 g3 x9 t12 t13 t17 t18 = impl_adjoint_b5 (impl_adjoint_R5 (codeAt Try.f88 [1, 0, 1, 0, 0, 1, 1, 0, 0, 1, 1, 0, 0]) N m (exK (finish (A_impl_adjoint) S_impl_adjoint Try.f88.results.toList) 2 ((A_impl_adjoint).shape 21) kX kO)) (fun (o0 : (List (List Bool))) (r1 : (List (List Bool))) (f2 : (List Int)) (g3 : (List Int)) (t12 : Int) (t13 : Int) => kX ([.val (.sl (.sl .bool)) .i o0, .val (.sl (.sl .bool)) .i r1, .val (.sl I) .i f2, .val (.sl I) .i g3, .u, .u, .u, .u, .u, .u, .u, .u, .val I .i t12, .val I .i t13] ++ List.replicate 30 .u)) o0 r1 f2 g3 x9 t12 t13 t17 t18 := by kernel_rfl
theorem impl_adjoint_iter5 (N : Nat) (kX : St → Option (Bool × Unit)) (kO : Nat → St → Option (Bool × Unit)) : ∀ (n : Nat) (o0 : (List (List Bool))) (r1 : (List (List Bool))) (f2 : (List Int)) (g3 : (List Int)) (x9 : Int) (t12 : Int) (t13 : Int) (t17 : Int) (t18 : Int), impl_adjoint_R5 (codeAt Try.f88 [1, 0, 1, 0, 0, 1, 1, 0, 0, 1, 1, 0, 0]) N n (exK (finish (A_impl_adjoint) S_impl_adjoint Try.f88.results.toList) 2 ((A_impl_adjoint).shape 21) kX kO) o0 r1 f2 g3 x9 t12 t13 t17 t18 = impl_adjoint_l5 N (fun (o0 : (List (List Bool))) (r1 : (List (List Bool))) (f2 : (List Int)) (g3 : (List Int)) (t12 : Int) (t13 : Int) => kX ([.val (.sl (.sl .bool)) .i o0, .val (.sl (.sl .bool)) .i r1, .val (.sl I) .i f2, .val (.sl I) .i g3, .u, .u, .u, .u, .u, .u, .u, .u, .val I .i t12, .val I .i t13] ++ List.replicate 30 .u)) n o0 r1 f2 g3 x9 t12 t13 t17 t18
  | 0, _, _, _, _, _, _, _, _, _ => rfl
  | m + 1, o0, r1, f2, g3, x9, t12, t13, t17, t18 => by
    have hrec : impl_adjoint_R5 (codeAt Try.f88 [1, 0, 1, 0, 0, 1, 1, 0, 0, 1, 1, 0, 0]) N m (exK (finish (A_impl_adjoint) S_impl_adjoint Try.f88.results.toList) 2 ((A_impl_adjoint).shape 21) kX kO) = (impl_adjoint_l5 N (fun (o0 : (List (List Bool))) (r1 : (List (List Bool))) (f2 : (List Int)) (g3 : (List Int)) (t12 : Int) (t13 : Int) => kX ([.val (.sl (.sl .bool)) .i o0, .val (.sl (.sl .bool)) .i r1, .val (.sl I) .i f2, .val (.sl I) .i g3, .u, .u, .u, .u, .u, .u, .u, .u, .val I .i t12, .val I .i t13] ++ List.replicate 30 .u)) m) := (funext fun o0 => (funext fun r1 => (funext fun f2 => (funext fun g3 => (funext fun x9 => (funext fun t12 => (funext fun t13 => (funext fun t17 => (funext fun t18 => impl_adjoint_iter5 N kX kO m o0 r1 f2 g3 x9 t12 t13 t17 t18)))))))))
    refine (impl_adjoint_step5 N m kX kO o0 r1 f2 g3 x9 t12 t13 t17 t18).trans ?_
    rw [hrec]
    rfl
theorem impl_adjoint_after5 (N : Nat) (m : Nat) (kX : St → Option (Bool × Unit)) (kO : Nat → St → Option (Bool × Unit)) (o0 : (List (List Bool))) (r1 : (List (List Bool))) (f2 : (List Int)) (g3 : (List Int)) (t12 : Int) (t13 : Int) : (fun st' => run (A_impl_adjoint) N (codeAt Try.f88 [1, 0, 1, 0, 0, 1, 1, 1]) st' (iterK ((A_impl_adjoint).shape 4) (run (A_impl_adjoint) N (codeAt Try.f88 [1, 0, 1, 0, 0])) m (exK (finish (A_impl_adjoint) S_impl_adjoint Try.f88.results.toList) 0 ((A_impl_adjoint).shape 23) kX kO))) ([.val (.sl (.sl .bool)) .i o0, .val (.sl (.sl .bool)) .i r1, .val (.sl I) .i f2, .val (.sl I) .i g3, .u, .u, .u, .u, .u, .u, .u, .u, .val I .i t12, .val I .i t13] ++ List.replicate 30 .u) = impl_adjoint_a5 (impl_adjoint_R2 (codeAt Try.f88 [1, 0, 1, 0, 0]) N m (exK (finish (A_impl_adjoint) S_impl_adjoint Try.f88.results.toList) 0 ((A_impl_adjoint).shape 23) kX kO)) o0 r1 f2 g3 t12 t13 := by kernel_rfl
theorem impl_adjoint_in5 (N : Nat) (m : Nat) (kX : St → Option (Bool × Unit)) (kO : Nat → St → Option (Bool × Unit)) (recF : (List (List Bool)) → (List (List Bool)) → (List Int) → (List Int) → Int → Int → Option (Bool × Unit)) (hrec : impl_adjoint_R2 (codeAt Try.f88 [1, 0, 1, 0, 0]) N m (exK (finish (A_impl_adjoint) S_impl_adjoint Try.f88.results.toList) 0 ((A_impl_adjoint).shape 23) kX kO) = recF) (o0 : (List (List Bool))) (r1 : (List (List Bool))) (f2 : (List Int)) (g3 : (List Int)) (x9 : Int) (t12 : Int) (t13 : Int) (t17 : Int) (t18 : Int) : impl_adjoint_R5 (codeAt Try.f88 [1, 0, 1, 0, 0, 1, 1, 0, 0, 1, 1, 0, 0]) N N (blockK 2 (blockK 1 (seqK ((A_impl_adjoint).shape 21) (run (A_impl_adjoint) N (codeAt Try.f88 [1, 0, 1, 0, 0, 1, 1, 1])) (iterK ((A_impl_adjoint).shape 4) (run (A_impl_adjoint) N (codeAt Try.f88 [1, 0, 1, 0, 0])) m (exK (finish (A_impl_adjoint) S_impl_adjoint Try.f88.results.toList) 0 ((A_impl_adjoint).shape 23) kX kO))))) o0 r1 f2 g3 x9 t12 t13 t17 t18 = impl_adjoint_F5 N recF (kX ([] ++ List.replicate 44 .u)) o0 r1 f2 g3 x9 t12 t13 t17 t18 :=
  have h : (fun (o0 : (List (List Bool))) (r1 : (List (List Bool))) (f2 : (List Int)) (g3 : (List Int)) (t12 : Int) (t13 : Int) => (fun st' => run (A_impl_adjoint) N (codeAt Try.f88 [1, 0, 1, 0, 0, 1, 1, 1]) st' (iterK ((A_impl_adjoint).shape 4) (run (A_impl_adjoint) N (codeAt Try.f88 [1, 0, 1, 0, 0])) m (exK (finish (A_impl_adjoint) S_impl_adjoint Try.f88.results.toList) 0 ((A_impl_adjoint).shape 23) kX kO))) ([.val (.sl (.sl .bool)) .i o0, .val (.sl (.sl .bool)) .i r1, .val (.sl I) .i f2, .val (.sl I) .i g3, .u, .u, .u, .u, .u, .u, .u, .u, .val I .i t12, .val I .i t13] ++ List.replicate 30 .u)) = (impl_adjoint_a5 recF) := (funext fun o0 => (funext fun r1 => (funext fun f2 => (funext fun g3 => (funext fun t12 => (funext fun t13 => (impl_adjoint_after5 N m kX kO o0 r1 f2 g3 t12 t13).trans (by rw [hrec])))))))
  have e : impl_adjoint_R5 (codeAt Try.f88 [1, 0, 1, 0, 0, 1, 1, 0, 0, 1, 1, 0, 0]) N N (blockK 2 (blockK 1 (seqK ((A_impl_adjoint).shape 21) (run (A_impl_adjoint) N (codeAt Try.f88 [1, 0, 1, 0, 0, 1, 1, 1])) (iterK ((A_impl_adjoint).shape 4) (run (A_impl_adjoint) N (codeAt Try.f88 [1, 0, 1, 0, 0])) m (exK (finish (A_impl_adjoint) S_impl_adjoint Try.f88.results.toList) 0 ((A_impl_adjoint).shape 23) kX kO))))) o0 r1 f2 g3 x9 t12 t13 t17 t18 = impl_adjoint_R5 (codeAt Try.f88 [1, 0, 1, 0, 0, 1, 1, 0, 0, 1, 1, 0, 0]) N N (exK (finish (A_impl_adjoint) S_impl_adjoint Try.f88.results.toList) 2 ((A_impl_adjoint).shape 21) (fun st' => run (A_impl_adjoint) N (codeAt Try.f88 [1, 0, 1, 0, 0, 1, 1, 1]) st' (iterK ((A_impl_adjoint).shape 4) (run (A_impl_adjoint) N (codeAt Try.f88 [1, 0, 1, 0, 0])) m (exK (finish (A_impl_adjoint) S_impl_adjoint Try.f88.results.toList) 0 ((A_impl_adjoint).shape 23) kX kO))) (fun j st => (blockK 2 (blockK 1 (seqK ((A_impl_adjoint).shape 21) (run (A_impl_adjoint) N (codeAt Try.f88 [1, 0, 1, 0, 0, 1, 1, 1])) (iterK ((A_impl_adjoint).shape 4) (run (A_impl_adjoint) N (codeAt Try.f88 [1, 0, 1, 0, 0])) m (exK (finish (A_impl_adjoint) S_impl_adjoint Try.f88.results.toList) 0 ((A_impl_adjoint).shape 23) kX kO))))) (.exit j) st)) o0 r1 f2 g3 x9 t12 t13 t17 t18 := iter_ex (fun st => by kernel_rfl) (fun st => by kernel_rfl)
  (e.trans (impl_adjoint_iter5 N (fun st' => run (A_impl_adjoint) N (codeAt Try.f88 [1, 0, 1, 0, 0, 1, 1, 1]) st' (iterK ((A_impl_adjoint).shape 4) (run (A_impl_adjoint) N (codeAt Try.f88 [1, 0, 1, 0, 0])) m (exK (finish (A_impl_adjoint) S_impl_adjoint Try.f88.results.toList) 0 ((A_impl_adjoint).shape 23) kX kO))) (fun j st => (blockK 2 (blockK 1 (seqK ((A_impl_adjoint).shape 21) (run (A_impl_adjoint) N (codeAt Try.f88 [1, 0, 1, 0, 0, 1, 1, 1])) (iterK ((A_impl_adjoint).shape 4) (run (A_impl_adjoint) N (codeAt Try.f88 [1, 0, 1, 0, 0])) m (exK (finish (A_impl_adjoint) S_impl_adjoint Try.f88.results.toList) 0 ((A_impl_adjoint).shape 23) kX kO))))) (.exit j) st) N o0 r1 f2 g3 x9 t12 t13 t17 t18)).trans (congrArg (fun k => impl_adjoint_l5 N k N o0 r1 f2 g3 x9 t12 t13 t17 t18) h)
theorem impl_adjoint_step2 (N : Nat) (m : Nat) (kX : St → Option (Bool × Unit)) (kO : Nat → St → Option (Bool × Unit)) (o0 : (List (List Bool))) (r1 : (List (List Bool))) (f2 : (List Int)) (g3 : (List Int)) (t12 : Int) (t13 : Int) : impl_adjoint_R2 (codeAt Try.f88 [1, 0, 1, 0, 0]) N (m + 1) (exK (finish (A_impl_adjoint) S_impl_adjoint Try.f88.results.toList) 0 ((A_impl_adjoint).shape 23) kX kO) o0 r1 f2 g3 t12 t13 = impl_adjoint_b2 (impl_adjoint_R5 (codeAt Try.f88 [1, 0, 1, 0, 0, 1, 1, 0, 0, 1, 1, 0, 0]) N N (blockK 2 (blockK 1 (seqK ((A_impl_adjoint).shape 21) (run (A_impl_adjoint) N (codeAt Try.f88 [1, 0, 1, 0, 0, 1, 1, 1])) (iterK ((A_impl_adjoint).shape 4) (run (A_impl_adjoint) N (codeAt Try.f88 [1, 0, 1, 0, 0])) m (exK (finish (A_impl_adjoint) S_impl_adjoint Try.f88.results.toList) 0 ((A_impl_adjoint).shape 23) kX kO)))))) (kX ([] ++ List.replicate 44 .u)) o0 r1 f2 g3 t12 t13 := by kernel_rfl
theorem impl_adjoint_iter2 (N : Nat) (kX : St → Option (Bool × Unit)) (kO : Nat → St → Option (Bool × Unit)) : ∀ (n : Nat) (o0 : (List (List Bool))) (r1 : (List (List Bool))) (f2 : (List Int)) (g3 : (List Int)) (t12 : Int) (t13 : Int), impl_adjoint_R2 (codeAt Try.f88 [1, 0, 1, 0, 0]) N n (exK (finish (A_impl_adjoint) S_impl_adjoint Try.f88.results.toList) 0 ((A_impl_adjoint).shape 23) kX kO) o0 r1 f2 g3 t12 t13 = impl_adjoint_l2 N (kX ([] ++ List.replicate 44 .u)) n o0 r1 f2 g3 t12 t13
  | 0, _, _, _, _, _, _ => rfl
  | m + 1, o0, r1, f2, g3, t12, t13 => by
    have hrec : impl_adjoint_R2 (codeAt Try.f88 [1, 0, 1, 0, 0]) N m (exK (finish (A_impl_adjoint) S_impl_adjoint Try.f88.results.toList) 0 ((A_impl_adjoint).shape 23) kX kO) = (impl_adjoint_l2 N (kX ([] ++ List.replicate 44 .u)) m) := (funext fun o0 => (funext fun r1 => (funext fun f2 => (funext fun g3 => (funext fun t12 => (funext fun t13 => impl_adjoint_iter2 N kX kO m o0 r1 f2 g3 t12 t13))))))
    refine (impl_adjoint_step2 N m kX kO o0 r1 f2 g3 t12 t13).trans ?_
    rw [(funext fun o0 => (funext fun r1 => (funext fun f2 => (funext fun g3 => (funext fun x9 => (funext fun t12 => (funext fun t13 => (funext fun t17 => (funext fun t18 => impl_adjoint_in5 N m kX kO (impl_adjoint_l2 N (kX ([] ++ List.replicate 44 .u)) m) hrec o0 r1 f2 g3 x9 t12 t13 t17 t18)))))))))]
    rfl
theorem impl_adjoint_after2 (N : Nat) : (fun st' => run (A_impl_adjoint) N (codeAt Try.f88 [1, 1]) st' (finish (A_impl_adjoint) S_impl_adjoint Try.f88.results.toList)) ([] ++ List.replicate 44 .u) = impl_adjoint_a2 := by kernel_rfl
theorem impl_adjoint_in2 (N : Nat) (o0 : (List (List Bool))) (r1 : (List (List Bool))) (f2 : (List Int)) (g3 : (List Int)) (t12 : Int) (t13 : Int) : impl_adjoint_R2 (codeAt Try.f88 [1, 0, 1, 0, 0]) N N (blockK 0 (seqK ((A_impl_adjoint).shape 23) (run (A_impl_adjoint) N (codeAt Try.f88 [1, 1])) (finish (A_impl_adjoint) S_impl_adjoint Try.f88.results.toList))) o0 r1 f2 g3 t12 t13 = impl_adjoint_F2 N o0 r1 f2 g3 t12 t13 :=
  have h : ((fun st' => run (A_impl_adjoint) N (codeAt Try.f88 [1, 1]) st' (finish (A_impl_adjoint) S_impl_adjoint Try.f88.results.toList)) ([] ++ List.replicate 44 .u)) = (impl_adjoint_a2) := impl_adjoint_after2 N
  have e : impl_adjoint_R2 (codeAt Try.f88 [1, 0, 1, 0, 0]) N N (blockK 0 (seqK ((A_impl_adjoint).shape 23) (run (A_impl_adjoint) N (codeAt Try.f88 [1, 1])) (finish (A_impl_adjoint) S_impl_adjoint Try.f88.results.toList))) o0 r1 f2 g3 t12 t13 = impl_adjoint_R2 (codeAt Try.f88 [1, 0, 1, 0, 0]) N N (exK (finish (A_impl_adjoint) S_impl_adjoint Try.f88.results.toList) 0 ((A_impl_adjoint).shape 23) (fun st' => run (A_impl_adjoint) N (codeAt Try.f88 [1, 1]) st' (finish (A_impl_adjoint) S_impl_adjoint Try.f88.results.toList)) (fun j st => (blockK 0 (seqK ((A_impl_adjoint).shape 23) (run (A_impl_adjoint) N (codeAt Try.f88 [1, 1])) (finish (A_impl_adjoint) S_impl_adjoint Try.f88.results.toList))) (.exit j) st)) o0 r1 f2 g3 t12 t13 := iter_ex (fun st => by kernel_rfl) (fun st => by kernel_rfl)
  (e.trans (impl_adjoint_iter2 N (fun st' => run (A_impl_adjoint) N (codeAt Try.f88 [1, 1]) st' (finish (A_impl_adjoint) S_impl_adjoint Try.f88.results.toList)) (fun j st => (blockK 0 (seqK ((A_impl_adjoint).shape 23) (run (A_impl_adjoint) N (codeAt Try.f88 [1, 1])) (finish (A_impl_adjoint) S_impl_adjoint Try.f88.results.toList))) (.exit j) st) N o0 r1 f2 g3 t12 t13)).trans (congrArg (fun k => impl_adjoint_l2 N k N o0 r1 f2 g3 t12 t13) h)
theorem run0_impl_adjoint (N : Nat) (x : (S_impl_adjoint).a.den) : runF (A_impl_adjoint) N Try.f88 S_impl_adjoint x = (impl_adjoint_s (impl_adjoint_R2 (codeAt Try.f88 [1, 0, 1, 0, 0]) N N (blockK 0 (seqK ((A_impl_adjoint).shape 23) (run (A_impl_adjoint) N (codeAt Try.f88 [1, 1])) (finish (A_impl_adjoint) S_impl_adjoint Try.f88.results.toList)))) x.1 x.2.1 x.2.2.1 x.2.2.2.1) := by kernel_rfl
theorem run_impl_adjoint (N : Nat) (x : (S_impl_adjoint).a.den) : runF (A_impl_adjoint) N Try.f88 S_impl_adjoint x = impl_adjoint N x.1 x.2.1 x.2.2.1 x.2.2.2.1 := by
  refine (run0_impl_adjoint N x).trans ?_
  rw [(funext fun o0 => (funext fun r1 => (funext fun f2 => (funext fun g3 => (funext fun t12 => (funext fun t13 => impl_adjoint_in2 N o0 r1 f2 g3 t12 t13))))))]
  rfl
theorem fn_impl_adjoint : FnOk Try.prog 88 := ⟨_, Try.func88, by kernel_rfl, by kernel_rfl⟩
theorem good_impl_adjoint : Gx.Good Try.prog 88 S_impl_adjoint := good_of_run Try.func88 (of_decide_eq_true (by kernel_rfl)) fun x r h => ⟨A_impl_adjoint, big, mkCfg_ok tabOk, mkCfg_sigs (show SigsOk Try.prog [] from trivial), (run_impl_adjoint big x).trans h⟩

/-! impl_IsAdjointPair -/
def impl_IsAdjointPair_s (p_0 : ((List (List Int)) × Unit)) (q_1 : ((List (List Int)) × Unit)) (f_2 : (List Int)) (g_3 : (List Int)) : Option ((Bool × (Bool × Unit)) × Unit) :=
  (impl_twoOrders p_0 q_1).bind fun rq1 =>
  cond (!((((((), rq1.1.2).1, ((), (((), rq1.1.2).2).2)).2).2).1))
  (some ((false, false, ()), (())))
  ((impl_isPosetMap rq1.1.1 ((((), rq1.1.2).2).1) f_2).bind fun rq2 =>
  cond (!rq2.1)
  (some ((false, false, ()), (())))
  ((impl_isPosetMap ((((), rq1.1.2).2).1) rq1.1.1 g_3).bind fun rq3 =>
  cond (!rq3.1)
  (some ((false, false, ()), (())))
  ((impl_adjoint big rq1.1.1 ((((), rq1.1.2).2).1) f_2 g_3).bind fun rq4 =>
  some ((rq4.1, true, ()), (())))))
def impl_IsAdjointPair (p_0 : ((List (List Int)) × Unit)) (q_1 : ((List (List Int)) × Unit)) (f_2 : (List Int)) (g_3 : (List Int)) : Option ((Bool × (Bool × Unit)) × Unit) := impl_IsAdjointPair_s p_0 q_1 f_2 g_3
def S_impl_IsAdjointPair : Sig := { a := (.pair (.pair (.sl (.sl I)) .unit) (.pair (.pair (.sl (.sl I)) .unit) (.pair (.sl I) (.pair (.sl I) .unit)))), md := [0, 0, 0, 0], mf := [], m := .unit, r := (.tup (.pair .bool (.pair .bool .unit))), rf := .i, f := fun x => impl_IsAdjointPair x.1 x.2.1 x.2.2.1 x.2.2.2.1 }
def A_impl_IsAdjointPair : Cfg := mkCfg tab [(86, S_impl_twoOrders), (87, S_impl_isPosetMap), (88, S_impl_adjoint)] []
theorem run_impl_IsAdjointPair (N : Nat) (x : (S_impl_IsAdjointPair).a.den) : runF (A_impl_IsAdjointPair) N Try.f42 S_impl_IsAdjointPair x = impl_IsAdjointPair x.1 x.2.1 x.2.2.1 x.2.2.2.1 := by kernel_rfl
theorem fn_impl_IsAdjointPair : FnOk Try.prog 42 := ⟨_, Try.func42, by kernel_rfl, by kernel_rfl⟩
theorem good_impl_IsAdjointPair : Gx.Good Try.prog 42 S_impl_IsAdjointPair := good_of_run Try.func42 (of_decide_eq_true (by kernel_rfl)) fun x r h => ⟨A_impl_IsAdjointPair, big, mkCfg_ok tabOk, mkCfg_sigs (show SigsOk Try.prog [(86, S_impl_twoOrders), (87, S_impl_isPosetMap), (88, S_impl_adjoint)] from ⟨⟨fn_impl_twoOrders, good_impl_twoOrders⟩, ⟨fn_impl_isPosetMap, good_impl_isPosetMap⟩, ⟨fn_impl_adjoint, good_impl_adjoint⟩, trivial⟩), (run_impl_IsAdjointPair big x).trans h⟩

/-! laws_FnExactIsAdjointPair -/
def laws_FnExactIsAdjointPair_s (aP_0 : ((List (List Int)) × Unit)) (aQ_1 : ((List (List Int)) × Unit)) (aF_2 : (List Int)) (aG_3 : (List Int)) : Option (Bool × Unit) :=
  cond (decide ((1048576 : Int) < (aF_2.length : Int)))
  (some (true, (())))
  (cond (decide ((1048576 : Int) < (aG_3.length : Int)))
  (some (true, (())))
  ((laws_szPoset aP_0 (1048576 : Int)).bind fun rq1 =>
  cond (decide (rq1.1 < (0 : Int)))
  (some (true, (())))
  ((laws_szPoset aQ_1 rq1.1).bind fun rq2 =>
  cond (decide (rq2.1 < (0 : Int)))
  (some (true, (())))
  ((laws_toPoset aP_0).bind fun rq3 =>
  (laws_toPoset aQ_1).bind fun rq4 =>
  (laws_toIntS big aF_2).bind fun rq5 =>
  (laws_toIntS big aG_3).bind fun rq6 =>
  (spec_IsAdjointPair rq3.1 rq4.1 rq5.1 rq6.1).bind fun rq7 =>
  (laws_toPoset aP_0).bind fun rq8 =>
  (laws_toPoset aQ_1).bind fun rq9 =>
  (laws_toIntS big aF_2).bind fun rq10 =>
  (laws_toIntS big aG_3).bind fun rq11 =>
  (impl_IsAdjointPair rq8.1 rq9.1 rq10.1 rq11.1).bind fun rq12 =>
  cond (rq12.1.1 != rq7.1.1)
  (some (false, (())))
  (cond (rq12.1.2.1 != rq7.1.2.1)
  (some (false, (())))
  ((laws_toPoset aP_0).bind fun rq13 =>
  (laws_eqPoset rq8.1 rq13.1).bind fun rq14 =>
  cond (!rq14.1)
  (some (false, (())))
  ((laws_toPoset aQ_1).bind fun rq15 =>
  (laws_eqPoset rq9.1 rq15.1).bind fun rq16 =>
  cond (!rq16.1)
  (some (false, (())))
  ((laws_toIntS big aF_2).bind fun rq17 =>
  (laws_eqIntS big rq10.1 rq17.1).bind fun rq18 =>
  cond (!rq18.1)
  (some (false, (())))
  ((laws_toIntS big aG_3).bind fun rq19 =>
  (laws_eqIntS big rq11.1 rq19.1).bind fun rq20 =>
  cond (!rq20.1)
  (some (false, (())))
  (some (true, (()))))))))))))
def laws_FnExactIsAdjointPair (aP_0 : ((List (List Int)) × Unit)) (aQ_1 : ((List (List Int)) × Unit)) (aF_2 : (List Int)) (aG_3 : (List Int)) : Option (Bool × Unit) := laws_FnExactIsAdjointPair_s aP_0 aQ_1 aF_2 aG_3
def S_laws_FnExactIsAdjointPair : Sig := { a := (.pair (.pair (.sl (.sl I)) .unit) (.pair (.pair (.sl (.sl I)) .unit) (.pair (.sl I) (.pair (.sl I) .unit)))), md := [0, 0, 0, 0], mf := [], m := .unit, r := .bool, rf := .i, f := fun x => laws_FnExactIsAdjointPair x.1 x.2.1 x.2.2.1 x.2.2.2.1 }
def A_laws_FnExactIsAdjointPair : Cfg := mkCfg tab [(39, S_laws_szPoset), (41, S_laws_toPoset), (16, S_laws_toIntS), (40, S_spec_IsAdjointPair), (42, S_impl_IsAdjointPair), (21, S_laws_eqPoset), (18, S_laws_eqIntS)] []
theorem run_laws_FnExactIsAdjointPair (N : Nat) (x : (S_laws_FnExactIsAdjointPair).a.den) : runF (A_laws_FnExactIsAdjointPair) N Try.f8 S_laws_FnExactIsAdjointPair x = laws_FnExactIsAdjointPair x.1 x.2.1 x.2.2.1 x.2.2.2.1 := by kernel_rfl
theorem fn_laws_FnExactIsAdjointPair : FnOk Try.prog 8 := ⟨_, Try.func8, by kernel_rfl, by kernel_rfl⟩
theorem good_laws_FnExactIsAdjointPair : Gx.Good Try.prog 8 S_laws_FnExactIsAdjointPair := good_of_run Try.func8 (of_decide_eq_true (by kernel_rfl)) fun x r h => ⟨A_laws_FnExactIsAdjointPair, big, mkCfg_ok tabOk, mkCfg_sigs (show SigsOk Try.prog [(39, S_laws_szPoset), (41, S_laws_toPoset), (16, S_laws_toIntS), (40, S_spec_IsAdjointPair), (42, S_impl_IsAdjointPair), (21, S_laws_eqPoset), (18, S_laws_eqIntS)] from ⟨⟨fn_laws_szPoset, good_laws_szPoset⟩, ⟨fn_laws_toPoset, good_laws_toPoset⟩, ⟨fn_laws_toIntS, good_laws_toIntS⟩, ⟨fn_spec_IsAdjointPair, good_spec_IsAdjointPair⟩, ⟨fn_impl_IsAdjointPair, good_impl_IsAdjointPair⟩, ⟨fn_laws_eqPoset, good_laws_eqPoset⟩, ⟨fn_laws_eqIntS, good_laws_eqIntS⟩, trivial⟩), (run_laws_FnExactIsAdjointPair big x).trans h⟩

/-! spec_l27Takes -/
def spec_l27Takes_s (p_0 : ((List (List Int)) × Unit)) : Option (Bool × Unit) :=
  cond (decide ((p_0.1.length : Int) ≤ (8 : Int)))
  ((spec_l24Good big p_0).bind fun rq1 =>
  some (rq1.1, (())))
  (some (false, (())))
def spec_l27Takes (p_0 : ((List (List Int)) × Unit)) : Option (Bool × Unit) := spec_l27Takes_s p_0
def S_spec_l27Takes : Sig := { a := (.pair (.pair (.sl (.sl I)) .unit) .unit), md := [0], mf := [], m := .unit, r := .bool, rf := .i, f := fun x => spec_l27Takes x.1 }
def A_spec_l27Takes : Cfg := mkCfg tab [(89, S_spec_l24Good)] []
theorem run_spec_l27Takes (N : Nat) (x : (S_spec_l27Takes).a.den) : runF (A_spec_l27Takes) N Try.f96 S_spec_l27Takes x = spec_l27Takes x.1 := by kernel_rfl
theorem fn_spec_l27Takes : FnOk Try.prog 96 := ⟨_, Try.func96, by kernel_rfl, by kernel_rfl⟩
theorem good_spec_l27Takes : Gx.Good Try.prog 96 S_spec_l27Takes := good_of_run Try.func96 (of_decide_eq_true (by kernel_rfl)) fun x r h => ⟨A_spec_l27Takes, big, mkCfg_ok tabOk, mkCfg_sigs (show SigsOk Try.prog [(89, S_spec_l24Good)] from ⟨⟨fn_spec_l24Good, good_spec_l24Good⟩, trivial⟩), (run_spec_l27Takes big x).trans h⟩

/-! spec_l23Is -/
def spec_l23Is_s (p_0 : ((List (List Int)) × Unit)) (x_1 : Int) : Option (Bool × Unit) :=
  cond (decide ((0 : Int) ≤ x_1))
  (some (decide (x_1 < (p_0.1.length : Int)), (())))
  (some (false, (())))
def spec_l23Is (p_0 : ((List (List Int)) × Unit)) (x_1 : Int) : Option (Bool × Unit) := spec_l23Is_s p_0 x_1
def S_spec_l23Is : Sig := { a := (.pair (.pair (.sl (.sl I)) .unit) (.pair I .unit)), md := [0, 0], mf := [], m := .unit, r := .bool, rf := .i, f := fun x => spec_l23Is x.1 x.2.1 }
def A_spec_l23Is : Cfg := mkCfg tab [] []
theorem run_spec_l23Is (N : Nat) (x : (S_spec_l23Is).a.den) : runF (A_spec_l23Is) N Try.f138 S_spec_l23Is x = spec_l23Is x.1 x.2.1 := by kernel_rfl
theorem fn_spec_l23Is : FnOk Try.prog 138 := ⟨_, Try.func138, by kernel_rfl, by kernel_rfl⟩
theorem good_spec_l23Is : Gx.Good Try.prog 138 S_spec_l23Is := good_of_run Try.func138 (of_decide_eq_true (by kernel_rfl)) fun x r h => ⟨A_spec_l23Is, big, mkCfg_ok tabOk, mkCfg_sigs (show SigsOk Try.prog [] from trivial), (run_spec_l23Is big x).trans h⟩

/-! spec_l23Less -/
def spec_l23Less_s (p_0 : ((List (List Int)) × Unit)) (x_1 : Int) (y_2 : Int) : Option (Bool × Unit) :=
  cond (decide (x_1 ≠ y_2))
  ((spec_l23Leq p_0 x_1 y_2).bind fun rq1 =>
  some (rq1.1, (())))
  (some (false, (())))
def spec_l23Less (p_0 : ((List (List Int)) × Unit)) (x_1 : Int) (y_2 : Int) : Option (Bool × Unit) := spec_l23Less_s p_0 x_1 y_2
def S_spec_l23Less : Sig := { a := (.pair (.pair (.sl (.sl I)) .unit) (.pair I (.pair I .unit))), md := [0, 0, 0], mf := [], m := .unit, r := .bool, rf := .i, f := fun x => spec_l23Less x.1 x.2.1 x.2.2.1 }
def A_spec_l23Less : Cfg := mkCfg tab [(128, S_spec_l23Leq)] []
theorem run_spec_l23Less (N : Nat) (x : (S_spec_l23Less).a.den) : runF (A_spec_l23Less) N Try.f153 S_spec_l23Less x = spec_l23Less x.1 x.2.1 x.2.2.1 := by kernel_rfl
theorem fn_spec_l23Less : FnOk Try.prog 153 := ⟨_, Try.func153, by kernel_rfl, by kernel_rfl⟩
theorem good_spec_l23Less : Gx.Good Try.prog 153 S_spec_l23Less := good_of_run Try.func153 (of_decide_eq_true (by kernel_rfl)) fun x r h => ⟨A_spec_l23Less, big, mkCfg_ok tabOk, mkCfg_sigs (show SigsOk Try.prog [(128, S_spec_l23Leq)] from ⟨⟨fn_spec_l23Leq, good_spec_l23Leq⟩, trivial⟩), (run_spec_l23Less big x).trans h⟩

/-! spec_l23Covers -/
def spec_l23Covers_b4 (rec : Int → Int → ((List (List Int)) × Unit) → Int → Option (Bool × Unit)) (k : Option (Bool × Unit)) (x1 : Int) (y2 : Int) (p3 : ((List (List Int)) × Unit)) (z7 : Int) : Option (Bool × Unit) :=
  cond (decide (z7 < (p3.1.length : Int)))
  ((spec_l23Less p3 x1 z7).bind fun rq2 =>
  cond rq2.1
  ((spec_l23Less p3 z7 y2).bind fun rq3 =>
  cond rq3.1
  (some (false, (())))
  (rec x1 y2 p3 (IntKind.i64.wrap (z7 + (1 : Int)))))
  (rec x1 y2 p3 (IntKind.i64.wrap (z7 + (1 : Int)))))
  (k)
def spec_l23Covers_a4 : Option (Bool × Unit) :=
  some (true, (()))
def spec_l23Covers_s (L4 : Int → Int → ((List (List Int)) × Unit) → Int → Option (Bool × Unit)) (p_0 : ((List (List Int)) × Unit)) (x_1 : Int) (y_2 : Int) : Option (Bool × Unit) :=
  (spec_l23Less p_0 x_1 y_2).bind fun rq1 =>
  cond (!rq1.1)
  (some (false, (())))
  (L4 x_1 y_2 p_0 (0 : Int))
def spec_l23Covers_l4 (N : Nat) (k : Option (Bool × Unit)) : Nat → Int → Int → ((List (List Int)) × Unit) → Int → Option (Bool × Unit)
  | 0, _, _, _, _ => none
  | m + 1, x1, y2, p3, z7 => spec_l23Covers_b4 (spec_l23Covers_l4 N k m) k x1 y2 p3 z7
def spec_l23Covers_F4 (N : Nat) (x1 : Int) (y2 : Int) (p3 : ((List (List Int)) × Unit)) (z7 : Int) : Option (Bool × Unit) := spec_l23Covers_l4 N (spec_l23Covers_a4) N x1 y2 p3 z7
def spec_l23Covers (N : Nat) (p_0 : ((List (List Int)) × Unit)) (x_1 : Int) (y_2 : Int) : Option (Bool × Unit) := spec_l23Covers_s (spec_l23Covers_F4 N) p_0 x_1 y_2
def S_spec_l23Covers : Sig := { a := (.pair (.pair (.sl (.sl I)) .unit) (.pair I (.pair I .unit))), md := [0, 0, 0], mf := [], m := .unit, r := .bool, rf := .i, f := fun x => spec_l23Covers big x.1 x.2.1 x.2.2.1 }
def A_spec_l23Covers : Cfg := mkCfg tab [(153, S_spec_l23Less)] [(8, [.drop, .as I .i, .as I .i, .as (.ptr (.pair (.sl (.sl I)) .unit)) (.o .i), .drop, .drop, .drop, .as I .i]), (17, [])]
def spec_l23Covers_R4 (cd : Code) (N n : Nat) (K : Ex → St → Option (Bool × Unit)) (x1 : Int) (y2 : Int) (p3 : ((List (List Int)) × Unit)) (z7 : Int) : Option (Bool × Unit) := iter ((A_spec_l23Covers).shape 8) (run (A_spec_l23Covers) N cd) n ([.u, .val I .i x1, .val I .i y2, .val (.ptr (.pair (.sl (.sl I)) .unit)) (.o .i) p3, .u, .u, .u, .val I .i z7] ++ List.replicate 22 .u) K
theorem spec_l23Covers_step4 (N : Nat) (m : Nat) (kX : St → Option (Bool × Unit)) (kO : Nat → St → Option (Bool × Unit)) (x1 : Int) (y2 : Int) (p3 : ((List (List Int)) × Unit)) (z7 : Int) : spec_l23Covers_R4 (codeAt Try.f139 [1, 1, 0, 1, 0, 0]) N (m + 1) (exK (finish (A_spec_l23Covers) S_spec_l23Covers Try.f139.results.toList) 0 ((A_spec_l23Covers).shape 17) kX kO) x1 y2 p3 z7 = spec_l23Covers_b4 (spec_l23Covers_R4 (codeAt Try.f139 [1, 1, 0, 1, 0, 0]) N m (exK (finish (A_spec_l23Covers) S_spec_l23Covers Try.f139.results.toList) 0 ((A_spec_l23Covers).shape 17) kX kO)) (kX ([] ++ List.replicate 30 .u)) x1 y2 p3 z7 := by kernel_rfl
theorem spec_l23Covers_iter4 (N : Nat) (kX : St → Option (Bool × Unit)) (kO : Nat → St → Option (Bool × Unit)) : ∀ (n : Nat) (x1 : Int) (y2 : Int) (p3 : ((List (List Int)) × Unit)) (z7 : Int), spec_l23Covers_R4 (codeAt Try.f139 [1, 1, 0, 1, 0, 0]) N n (exK (finish (A_spec_l23Covers) S_spec_l23Covers Try.f139.results.toList) 0 ((A_spec_l23Covers).shape 17) kX kO) x1 y2 p3 z7 = spec_l23Covers_l4 N (kX ([] ++ List.replicate 30 .u)) n x1 y2 p3 z7
  | 0, _, _, _, _ => rfl
  | m + 1, x1, y2, p3, z7 => by
    have hrec : spec_l23Covers_R4 (codeAt Try.f139 [1, 1, 0, 1, 0, 0]) N m (exK (finish (A_spec_l23Covers) S_spec_l23Covers Try.f139.results.toList) 0 ((A_spec_l23Covers).shape 17) kX kO) = (spec_l23Covers_l4 N (kX ([] ++ List.replicate 30 .u)) m) := (funext fun x1 => (funext fun y2 => (funext fun p3 => (funext fun z7 => spec_l23Covers_iter4 N kX kO m x1 y2 p3 z7))))
    refine (spec_l23Covers_step4 N m kX kO x1 y2 p3 z7).trans ?_
    rw [hrec]
    rfl
theorem spec_l23Covers_after4 (N : Nat) : (fun st' => run (A_spec_l23Covers) N (codeAt Try.f139 [1, 1, 1]) st' (finish (A_spec_l23Covers) S_spec_l23Covers Try.f139.results.toList)) ([] ++ List.replicate 30 .u) = spec_l23Covers_a4 := by kernel_rfl
theorem spec_l23Covers_in4 (N : Nat) (x1 : Int) (y2 : Int) (p3 : ((List (List Int)) × Unit)) (z7 : Int) : spec_l23Covers_R4 (codeAt Try.f139 [1, 1, 0, 1, 0, 0]) N N (blockK 0 (seqK ((A_spec_l23Covers).shape 17) (run (A_spec_l23Covers) N (codeAt Try.f139 [1, 1, 1])) (finish (A_spec_l23Covers) S_spec_l23Covers Try.f139.results.toList))) x1 y2 p3 z7 = spec_l23Covers_F4 N x1 y2 p3 z7 :=
  have h : ((fun st' => run (A_spec_l23Covers) N (codeAt Try.f139 [1, 1, 1]) st' (finish (A_spec_l23Covers) S_spec_l23Covers Try.f139.results.toList)) ([] ++ List.replicate 30 .u)) = (spec_l23Covers_a4) := spec_l23Covers_after4 N
  have e : spec_l23Covers_R4 (codeAt Try.f139 [1, 1, 0, 1, 0, 0]) N N (blockK 0 (seqK ((A_spec_l23Covers).shape 17) (run (A_spec_l23Covers) N (codeAt Try.f139 [1, 1, 1])) (finish (A_spec_l23Covers) S_spec_l23Covers Try.f139.results.toList))) x1 y2 p3 z7 = spec_l23Covers_R4 (codeAt Try.f139 [1, 1, 0, 1, 0, 0]) N N (exK (finish (A_spec_l23Covers) S_spec_l23Covers Try.f139.results.toList) 0 ((A_spec_l23Covers).shape 17) (fun st' => run (A_spec_l23Covers) N (codeAt Try.f139 [1, 1, 1]) st' (finish (A_spec_l23Covers) S_spec_l23Covers Try.f139.results.toList)) (fun j st => (blockK 0 (seqK ((A_spec_l23Covers).shape 17) (run (A_spec_l23Covers) N (codeAt Try.f139 [1, 1, 1])) (finish (A_spec_l23Covers) S_spec_l23Covers Try.f139.results.toList))) (.exit j) st)) x1 y2 p3 z7 := iter_ex (fun st => by kernel_rfl) (fun st => by kernel_rfl)
  (e.trans (spec_l23Covers_iter4 N (fun st' => run (A_spec_l23Covers) N (codeAt Try.f139 [1, 1, 1]) st' (finish (A_spec_l23Covers) S_spec_l23Covers Try.f139.results.toList)) (fun j st => (blockK 0 (seqK ((A_spec_l23Covers).shape 17) (run (A_spec_l23Covers) N (codeAt Try.f139 [1, 1, 1])) (finish (A_spec_l23Covers) S_spec_l23Covers Try.f139.results.toList))) (.exit j) st) N x1 y2 p3 z7)).trans (congrArg (fun k => spec_l23Covers_l4 N k N x1 y2 p3 z7) h)
theorem run0_spec_l23Covers (N : Nat) (x : (S_spec_l23Covers).a.den) : runF (A_spec_l23Covers) N Try.f139 S_spec_l23Covers x = (spec_l23Covers_s (spec_l23Covers_R4 (codeAt Try.f139 [1, 1, 0, 1, 0, 0]) N N (blockK 0 (seqK ((A_spec_l23Covers).shape 17) (run (A_spec_l23Covers) N (codeAt Try.f139 [1, 1, 1])) (finish (A_spec_l23Covers) S_spec_l23Covers Try.f139.results.toList)))) x.1 x.2.1 x.2.2.1) := by kernel_rfl
theorem run_spec_l23Covers (N : Nat) (x : (S_spec_l23Covers).a.den) : runF (A_spec_l23Covers) N Try.f139 S_spec_l23Covers x = spec_l23Covers N x.1 x.2.1 x.2.2.1 := by
  refine (run0_spec_l23Covers N x).trans ?_
  rw [(funext fun x1 => (funext fun y2 => (funext fun p3 => (funext fun z7 => spec_l23Covers_in4 N x1 y2 p3 z7))))]
  rfl
theorem fn_spec_l23Covers : FnOk Try.prog 139 := ⟨_, Try.func139, by kernel_rfl, by kernel_rfl⟩
theorem good_spec_l23Covers : Gx.Good Try.prog 139 S_spec_l23Covers := good_of_run Try.func139 (of_decide_eq_true (by kernel_rfl)) fun x r h => ⟨A_spec_l23Covers, big, mkCfg_ok tabOk, mkCfg_sigs (show SigsOk Try.prog [(153, S_spec_l23Less)] from ⟨⟨fn_spec_l23Less, good_spec_l23Less⟩, trivial⟩), (run_spec_l23Covers big x).trans h⟩

/-! spec_l27Edge -/
def spec_l27Edge_s (p_0 : ((List (List Int)) × Unit)) (x_1 : Int) (y_2 : Int) : Option (Bool × Unit) :=
  (spec_l23Is p_0 x_1).bind fun rq1 =>
  cond rq1.1
  ((spec_l23Is p_0 y_2).bind fun rq2 =>
  cond rq2.1
  ((spec_l23Covers big p_0 x_1 y_2).bind fun rq3 =>
  some (rq3.1, (())))
  (some (false, (()))))
  (some (false, (())))
def spec_l27Edge (p_0 : ((List (List Int)) × Unit)) (x_1 : Int) (y_2 : Int) : Option (Bool × Unit) := spec_l27Edge_s p_0 x_1 y_2
def S_spec_l27Edge : Sig := { a := (.pair (.pair (.sl (.sl I)) .unit) (.pair I (.pair I .unit))), md := [0, 0, 0], mf := [], m := .unit, r := .bool, rf := .i, f := fun x => spec_l27Edge x.1 x.2.1 x.2.2.1 }
def A_spec_l27Edge : Cfg := mkCfg tab [(138, S_spec_l23Is), (139, S_spec_l23Covers)] []
theorem run_spec_l27Edge (N : Nat) (x : (S_spec_l27Edge).a.den) : runF (A_spec_l27Edge) N Try.f97 S_spec_l27Edge x = spec_l27Edge x.1 x.2.1 x.2.2.1 := by kernel_rfl
theorem fn_spec_l27Edge : FnOk Try.prog 97 := ⟨_, Try.func97, by kernel_rfl, by kernel_rfl⟩
theorem good_spec_l27Edge : Gx.Good Try.prog 97 S_spec_l27Edge := good_of_run Try.func97 (of_decide_eq_true (by kernel_rfl)) fun x r h => ⟨A_spec_l27Edge, big, mkCfg_ok tabOk, mkCfg_sigs (show SigsOk Try.prog [(138, S_spec_l23Is), (139, S_spec_l23Covers)] from ⟨⟨fn_spec_l23Is, good_spec_l23Is⟩, ⟨fn_spec_l23Covers, good_spec_l23Covers⟩, trivial⟩), (run_spec_l27Edge big x).trans h⟩

/-! spec_l24Join -/
def spec_l24Join_s (p_0 : ((List (List Int)) × Unit)) (x_1 : Int) (y_2 : Int) : Option (Int × Unit) :=
  (spec_l23Dual big p_0).bind fun rq1 =>
  (spec_l24Bound big rq1.1 [x_1, y_2]).bind fun rq2 =>
  some (rq2.1, (()))
def spec_l24Join (p_0 : ((List (List Int)) × Unit)) (x_1 : Int) (y_2 : Int) : Option (Int × Unit) := spec_l24Join_s p_0 x_1 y_2
def S_spec_l24Join : Sig := { a := (.pair (.pair (.sl (.sl I)) .unit) (.pair I (.pair I .unit))), md := [0, 0, 0], mf := [], m := .unit, r := I, rf := .i, f := fun x => spec_l24Join x.1 x.2.1 x.2.2.1 }
def A_spec_l24Join : Cfg := mkCfg tab [(130, S_spec_l23Dual), (108, S_spec_l24Bound)] []
theorem run_spec_l24Join (N : Nat) (x : (S_spec_l24Join).a.den) : runF (A_spec_l24Join) N Try.f140 S_spec_l24Join x = spec_l24Join x.1 x.2.1 x.2.2.1 := by kernel_rfl
theorem fn_spec_l24Join : FnOk Try.prog 140 := ⟨_, Try.func140, by kernel_rfl, by kernel_rfl⟩
theorem good_spec_l24Join : Gx.Good Try.prog 140 S_spec_l24Join := good_of_run Try.func140 (of_decide_eq_true (by kernel_rfl)) fun x r h => ⟨A_spec_l24Join, big, mkCfg_ok tabOk, mkCfg_sigs (show SigsOk Try.prog [(130, S_spec_l23Dual), (108, S_spec_l24Bound)] from ⟨⟨fn_spec_l23Dual, good_spec_l23Dual⟩, ⟨fn_spec_l24Bound, good_spec_l24Bound⟩, trivial⟩), (run_spec_l24Join big x).trans h⟩

/-! spec_l27Up -/
def spec_l27Up_s (p_0 : ((List (List Int)) × Unit)) (a_1 : (Int × (Int × Unit))) (b_2 : (Int × (Int × Unit))) : Option (Bool × Unit) :=
  (spec_l24Join p_0 a_1.2.1 b_2.1).bind fun rq1 =>
  cond (decide (rq1.1 = b_2.2.1))
  ((spec_l24Meet p_0 a_1.2.1 b_2.1).bind fun rq2 =>
  some (decide (rq2.1 = a_1.1), (())))
  (some (false, (())))
def spec_l27Up (p_0 : ((List (List Int)) × Unit)) (a_1 : (Int × (Int × Unit))) (b_2 : (Int × (Int × Unit))) : Option (Bool × Unit) := spec_l27Up_s p_0 a_1 b_2
def S_spec_l27Up : Sig := { a := (.pair (.pair (.sl (.sl I)) .unit) (.pair (.pair I (.pair I .unit)) (.pair (.pair I (.pair I .unit)) .unit))), md := [0, 0, 0], mf := [], m := .unit, r := .bool, rf := .i, f := fun x => spec_l27Up x.1 x.2.1 x.2.2.1 }
def A_spec_l27Up : Cfg := mkCfg tab [(140, S_spec_l24Join), (132, S_spec_l24Meet)] []
theorem run_spec_l27Up (N : Nat) (x : (S_spec_l27Up).a.den) : runF (A_spec_l27Up) N Try.f98 S_spec_l27Up x = spec_l27Up x.1 x.2.1 x.2.2.1 := by kernel_rfl
theorem fn_spec_l27Up : FnOk Try.prog 98 := ⟨_, Try.func98, by kernel_rfl, by kernel_rfl⟩
theorem good_spec_l27Up : Gx.Good Try.prog 98 S_spec_l27Up := good_of_run Try.func98 (of_decide_eq_true (by kernel_rfl)) fun x r h => ⟨A_spec_l27Up, big, mkCfg_ok tabOk, mkCfg_sigs (show SigsOk Try.prog [(140, S_spec_l24Join), (132, S_spec_l24Meet)] from ⟨⟨fn_spec_l24Join, good_spec_l24Join⟩, ⟨fn_spec_l24Meet, good_spec_l24Meet⟩, trivial⟩), (run_spec_l27Up big x).trans h⟩

/-! spec_IsPerspectiveUp -/
def spec_IsPerspectiveUp_s (p_0 : ((List (List Int)) × Unit)) (x_1 : Int) (y_2 : Int) (u_3 : Int) (v_4 : Int) : Option ((Bool × (Bool × Unit)) × Unit) :=
  (spec_l27Takes p_0).bind fun rq1 =>
  cond (!rq1.1)
  (some ((false, false, ()), (())))
  ((spec_l27Edge p_0 x_1 y_2).bind fun rq2 =>
  cond (!rq2.1)
  (some ((false, false, ()), (())))
  ((spec_l27Edge p_0 u_3 v_4).bind fun rq3 =>
  cond (!rq3.1)
  (some ((false, false, ()), (())))
  ((spec_l27Up p_0 (x_1, (y_2, ())) (u_3, (v_4, ()))).bind fun rq4 =>
  some ((rq4.1, true, ()), (())))))
def spec_IsPerspectiveUp (p_0 : ((List (List Int)) × Unit)) (x_1 : Int) (y_2 : Int) (u_3 : Int) (v_4 : Int) : Option ((Bool × (Bool × Unit)) × Unit) := spec_IsPerspectiveUp_s p_0 x_1 y_2 u_3 v_4
def S_spec_IsPerspectiveUp : Sig := { a := (.pair (.pair (.sl (.sl I)) .unit) (.pair I (.pair I (.pair I (.pair I .unit))))), md := [0, 0, 0, 0, 0], mf := [], m := .unit, r := (.tup (.pair .bool (.pair .bool .unit))), rf := .i, f := fun x => spec_IsPerspectiveUp x.1 x.2.1 x.2.2.1 x.2.2.2.1 x.2.2.2.2.1 }
def A_spec_IsPerspectiveUp : Cfg := mkCfg tab [(96, S_spec_l27Takes), (97, S_spec_l27Edge), (98, S_spec_l27Up)] []
theorem run_spec_IsPerspectiveUp (N : Nat) (x : (S_spec_IsPerspectiveUp).a.den) : runF (A_spec_IsPerspectiveUp) N Try.f45 S_spec_IsPerspectiveUp x = spec_IsPerspectiveUp x.1 x.2.1 x.2.2.1 x.2.2.2.1 x.2.2.2.2.1 := by kernel_rfl
theorem fn_spec_IsPerspectiveUp : FnOk Try.prog 45 := ⟨_, Try.func45, by kernel_rfl, by kernel_rfl⟩
theorem good_spec_IsPerspectiveUp : Gx.Good Try.prog 45 S_spec_IsPerspectiveUp := good_of_run Try.func45 (of_decide_eq_true (by kernel_rfl)) fun x r h => ⟨A_spec_IsPerspectiveUp, big, mkCfg_ok tabOk, mkCfg_sigs (show SigsOk Try.prog [(96, S_spec_l27Takes), (97, S_spec_l27Edge), (98, S_spec_l27Up)] from ⟨⟨fn_spec_l27Takes, good_spec_l27Takes⟩, ⟨fn_spec_l27Edge, good_spec_l27Edge⟩, ⟨fn_spec_l27Up, good_spec_l27Up⟩, trivial⟩), (run_spec_IsPerspectiveUp big x).trans h⟩

/-! impl_smallLattice -/
def impl_smallLattice_s (p_0 : ((List (List Int)) × Unit)) : Option (((Option ((List (List Bool)) × ((List (List Int)) × ((List (List Int)) × Unit)))) × (Bool × Unit)) × Unit) :=
  (impl_latticeOf p_0).bind fun rq1 =>
  cond rq1.1.2.1
  ((rq1.1.1).bind fun xq2 =>
  some ((rq1.1.1, decide ((xq2.1.length : Int) ≤ (8 : Int)), ()), (())))
  (some ((rq1.1.1, false, ()), (())))
def impl_smallLattice (p_0 : ((List (List Int)) × Unit)) : Option (((Option ((List (List Bool)) × ((List (List Int)) × ((List (List Int)) × Unit)))) × (Bool × Unit)) × Unit) := impl_smallLattice_s p_0
def S_impl_smallLattice : Sig := { a := (.pair (.pair (.sl (.sl I)) .unit) .unit), md := [0], mf := [], m := .unit, r := (.tup (.pair (.opt (.pair (.sl (.sl .bool)) (.pair (.sl (.sl I)) (.pair (.sl (.sl I)) .unit)))) (.pair .bool .unit))), rf := .i, f := fun x => impl_smallLattice x.1 }
def A_impl_smallLattice : Cfg := mkCfg tab [(91, S_impl_latticeOf)] []
theorem run_impl_smallLattice (N : Nat) (x : (S_impl_smallLattice).a.den) : runF (A_impl_smallLattice) N Try.f99 S_impl_smallLattice x = impl_smallLattice x.1 := by kernel_rfl
theorem fn_impl_smallLattice : FnOk Try.prog 99 := ⟨_, Try.func99, by kernel_rfl, by kernel_rfl⟩
theorem good_impl_smallLattice : Gx.Good Try.prog 99 S_impl_smallLattice := good_of_run Try.func99 (of_decide_eq_true (by kernel_rfl)) fun x r h => ⟨A_impl_smallLattice, big, mkCfg_ok tabOk, mkCfg_sigs (show SigsOk Try.prog [(91, S_impl_latticeOf)] from ⟨⟨fn_impl_latticeOf, good_impl_latticeOf⟩, trivial⟩), (run_impl_smallLattice big x).trans h⟩

/-! impl_order_less -/
def impl_order_less_s (o_0 : (List (List Bool))) (x_1 : Int) (y_2 : Int) : Option (Bool × Unit) :=
  cond (decide (x_1 ≠ y_2))
  ((atI o_0 x_1).bind fun xq1 =>
  (atI xq1 y_2).bind fun xq2 =>
  some (xq2, (())))
  (some (false, (())))
def impl_order_less (o_0 : (List (List Bool))) (x_1 : Int) (y_2 : Int) : Option (Bool × Unit) := impl_order_less_s o_0 x_1 y_2
def S_impl_order_less : Sig := { a := (.pair (.sl (.sl .bool)) (.pair I (.pair I .unit))), md := [0, 0, 0], mf := [], m := .unit, r := .bool, rf := .i, f := fun x => impl_order_less x.1 x.2.1 x.2.2.1 }
def A_impl_order_less : Cfg := mkCfg tab [] []
theorem run_impl_order_less (N : Nat) (x : (S_impl_order_less).a.den) : runF (A_impl_order_less) N Try.f154 S_impl_order_less x = impl_order_less x.1 x.2.1 x.2.2.1 := by kernel_rfl
theorem fn_impl_order_less : FnOk Try.prog 154 := ⟨_, Try.func154, by kernel_rfl, by kernel_rfl⟩
theorem good_impl_order_less : Gx.Good Try.prog 154 S_impl_order_less := good_of_run Try.func154 (of_decide_eq_true (by kernel_rfl)) fun x r h => ⟨A_impl_order_less, big, mkCfg_ok tabOk, mkCfg_sigs (show SigsOk Try.prog [] from trivial), (run_impl_order_less big x).trans h⟩

/-! impl_order_covers -/
def impl_order_covers_b4 (rec : (List (List Bool)) → Int → Int → Int → Int → Option (Bool × Unit)) (k : Option (Bool × Unit)) (o0 : (List (List Bool))) (x1 : Int) (y2 : Int) (t14 : Int) (t15 : Int) : Option (Bool × Unit) :=
  cond (decide (t15 < t14))
  ((impl_order_less o0 x1 t15).bind fun rq2 =>
  cond rq2.1
  ((impl_order_less o0 t15 y2).bind fun rq3 =>
  cond rq3.1
  (some (false, (())))
  (rec o0 x1 y2 t14 (IntKind.i64.wrap (t15 + (1 : Int)))))
  (rec o0 x1 y2 t14 (IntKind.i64.wrap (t15 + (1 : Int)))))
  (k)
def impl_order_covers_a4 : Option (Bool × Unit) :=
  some (true, (()))
def impl_order_covers_s (L4 : (List (List Bool)) → Int → Int → Int → Int → Option (Bool × Unit)) (o_0 : (List (List Bool))) (x_1 : Int) (y_2 : Int) : Option (Bool × Unit) :=
  (impl_order_less o_0 x_1 y_2).bind fun rq1 =>
  cond (!rq1.1)
  (some (false, (())))
  (L4 o_0 x_1 y_2 (o_0.length : Int) (0 : Int))
def impl_order_covers_l4 (N : Nat) (k : Option (Bool × Unit)) : Nat → (List (List Bool)) → Int → Int → Int → Int → Option (Bool × Unit)
  | 0, _, _, _, _, _ => none
  | m + 1, o0, x1, y2, t14, t15 => impl_order_covers_b4 (impl_order_covers_l4 N k m) k o0 x1 y2 t14 t15
def impl_order_covers_F4 (N : Nat) (o0 : (List (List Bool))) (x1 : Int) (y2 : Int) (t14 : Int) (t15 : Int) : Option (Bool × Unit) := impl_order_covers_l4 N (impl_order_covers_a4) N o0 x1 y2 t14 t15
def impl_order_covers (N : Nat) (o_0 : (List (List Bool))) (x_1 : Int) (y_2 : Int) : Option (Bool × Unit) := impl_order_covers_s (impl_order_covers_F4 N) o_0 x_1 y_2
def S_impl_order_covers : Sig := { a := (.pair (.sl (.sl .bool)) (.pair I (.pair I .unit))), md := [0, 0, 0], mf := [], m := .unit, r := .bool, rf := .i, f := fun x => impl_order_covers big x.1 x.2.1 x.2.2.1 }
def A_impl_order_covers : Cfg := mkCfg tab [(154, S_impl_order_less)] [(8, [.as (.sl (.sl .bool)) .i, .as I .i, .as I .i, .drop, .drop, .drop, .drop, .drop, .drop, .drop, .drop, .drop, .drop, .drop, .as I .i, .as I .i]), (19, [])]
def impl_order_covers_R4 (cd : Code) (N n : Nat) (K : Ex → St → Option (Bool × Unit)) (o0 : (List (List Bool))) (x1 : Int) (y2 : Int) (t14 : Int) (t15 : Int) : Option (Bool × Unit) := iter ((A_impl_order_covers).shape 8) (run (A_impl_order_covers) N cd) n ([.val (.sl (.sl .bool)) .i o0, .val I .i x1, .val I .i y2, .u, .u, .u, .u, .u, .u, .u, .u, .u, .u, .u, .val I .i t14, .val I .i t15] ++ List.replicate 13 .u) K
theorem impl_order_covers_step4 (N : Nat) (m : Nat) (kX : St → Option (Bool × Unit)) (kO : Nat → St → Option (Bool × Unit)) (o0 : (List (List Bool))) (x1 : Int) (y2 : Int) (t14 : Int) (t15 : Int) : impl_order_covers_R4 (codeAt Try.f141 [1, 1, 0, 1, 0, 0]) N (m + 1) (exK (finish (A_impl_order_covers) S_impl_order_covers Try.f141.results.toList) 0 ((A_impl_order_covers).shape 19) kX kO) o0 x1 y2 t14 t15 = impl_order_covers_b4 (impl_order_covers_R4 (codeAt Try.f141 [1, 1, 0, 1, 0, 0]) N m (exK (finish (A_impl_order_covers) S_impl_order_covers Try.f141.results.toList) 0 ((A_impl_order_covers).shape 19) kX kO)) (kX ([] ++ List.replicate 29 .u)) o0 x1 y2 t14 t15 := by kernel_rfl
theorem impl_order_covers_iter4 (N : Nat) (kX : St → Option (Bool × Unit)) (kO : Nat → St → Option (Bool × Unit)) : ∀ (n : Nat) (o0 : (List (List Bool))) (x1 : Int) (y2 : Int) (t14 : Int) (t15 : Int), impl_order_covers_R4 (codeAt Try.f141 [1, 1, 0, 1, 0, 0]) N n (exK (finish (A_impl_order_covers) S_impl_order_covers Try.f141.results.toList) 0 ((A_impl_order_covers).shape 19) kX kO) o0 x1 y2 t14 t15 = impl_order_covers_l4 N (kX ([] ++ List.replicate 29 .u)) n o0 x1 y2 t14 t15
  | 0, _, _, _, _, _ => rfl
  | m + 1, o0, x1, y2, t14, t15 => by
    have hrec : impl_order_covers_R4 (codeAt Try.f141 [1, 1, 0, 1, 0, 0]) N m (exK (finish (A_impl_order_covers) S_impl_order_covers Try.f141.results.toList) 0 ((A_impl_order_covers).shape 19) kX kO) = (impl_order_covers_l4 N (kX ([] ++ List.replicate 29 .u)) m) := (funext fun o0 => (funext fun x1 => (funext fun y2 => (funext fun t14 => (funext fun t15 => impl_order_covers_iter4 N kX kO m o0 x1 y2 t14 t15)))))
    refine (impl_order_covers_step4 N m kX kO o0 x1 y2 t14 t15).trans ?_
    rw [hrec]
    rfl
theorem impl_order_covers_after4 (N : Nat) : (fun st' => run (A_impl_order_covers) N (codeAt Try.f141 [1, 1, 1]) st' (finish (A_impl_order_covers) S_impl_order_covers Try.f141.results.toList)) ([] ++ List.replicate 29 .u) = impl_order_covers_a4 := by kernel_rfl
theorem impl_order_covers_in4 (N : Nat) (o0 : (List (List Bool))) (x1 : Int) (y2 : Int) (t14 : Int) (t15 : Int) : impl_order_covers_R4 (codeAt Try.f141 [1, 1, 0, 1, 0, 0]) N N (blockK 0 (seqK ((A_impl_order_covers).shape 19) (run (A_impl_order_covers) N (codeAt Try.f141 [1, 1, 1])) (finish (A_impl_order_covers) S_impl_order_covers Try.f141.results.toList))) o0 x1 y2 t14 t15 = impl_order_covers_F4 N o0 x1 y2 t14 t15 :=
  have h : ((fun st' => run (A_impl_order_covers) N (codeAt Try.f141 [1, 1, 1]) st' (finish (A_impl_order_covers) S_impl_order_covers Try.f141.results.toList)) ([] ++ List.replicate 29 .u)) = (impl_order_covers_a4) := impl_order_covers_after4 N
  have e : impl_order_covers_R4 (codeAt Try.f141 [1, 1, 0, 1, 0, 0]) N N (blockK 0 (seqK ((A_impl_order_covers).shape 19) (run (A_impl_order_covers) N (codeAt Try.f141 [1, 1, 1])) (finish (A_impl_order_covers) S_impl_order_covers Try.f141.results.toList))) o0 x1 y2 t14 t15 = impl_order_covers_R4 (codeAt Try.f141 [1, 1, 0, 1, 0, 0]) N N (exK (finish (A_impl_order_covers) S_impl_order_covers Try.f141.results.toList) 0 ((A_impl_order_covers).shape 19) (fun st' => run (A_impl_order_covers) N (codeAt Try.f141 [1, 1, 1]) st' (finish (A_impl_order_covers) S_impl_order_covers Try.f141.results.toList)) (fun j st => (blockK 0 (seqK ((A_impl_order_covers).shape 19) (run (A_impl_order_covers) N (codeAt Try.f141 [1, 1, 1])) (finish (A_impl_order_covers) S_impl_order_covers Try.f141.results.toList))) (.exit j) st)) o0 x1 y2 t14 t15 := iter_ex (fun st => by kernel_rfl) (fun st => by kernel_rfl)
  (e.trans (impl_order_covers_iter4 N (fun st' => run (A_impl_order_covers) N (codeAt Try.f141 [1, 1, 1]) st' (finish (A_impl_order_covers) S_impl_order_covers Try.f141.results.toList)) (fun j st => (blockK 0 (seqK ((A_impl_order_covers).shape 19) (run (A_impl_order_covers) N (codeAt Try.f141 [1, 1, 1])) (finish (A_impl_order_covers) S_impl_order_covers Try.f141.results.toList))) (.exit j) st) N o0 x1 y2 t14 t15)).trans (congrArg (fun k => impl_order_covers_l4 N k N o0 x1 y2 t14 t15) h)
theorem run0_impl_order_covers (N : Nat) (x : (S_impl_order_covers).a.den) : runF (A_impl_order_covers) N Try.f141 S_impl_order_covers x = (impl_order_covers_s (impl_order_covers_R4 (codeAt Try.f141 [1, 1, 0, 1, 0, 0]) N N (blockK 0 (seqK ((A_impl_order_covers).shape 19) (run (A_impl_order_covers) N (codeAt Try.f141 [1, 1, 1])) (finish (A_impl_order_covers) S_impl_order_covers Try.f141.results.toList)))) x.1 x.2.1 x.2.2.1) := by kernel_rfl
theorem run_impl_order_covers (N : Nat) (x : (S_impl_order_covers).a.den) : runF (A_impl_order_covers) N Try.f141 S_impl_order_covers x = impl_order_covers N x.1 x.2.1 x.2.2.1 := by
  refine (run0_impl_order_covers N x).trans ?_
  rw [(funext fun o0 => (funext fun x1 => (funext fun y2 => (funext fun t14 => (funext fun t15 => impl_order_covers_in4 N o0 x1 y2 t14 t15)))))]
  rfl
theorem fn_impl_order_covers : FnOk Try.prog 141 := ⟨_, Try.func141, by kernel_rfl, by kernel_rfl⟩
theorem good_impl_order_covers : Gx.Good Try.prog 141 S_impl_order_covers := good_of_run Try.func141 (of_decide_eq_true (by kernel_rfl)) fun x r h => ⟨A_impl_order_covers, big, mkCfg_ok tabOk, mkCfg_sigs (show SigsOk Try.prog [(154, S_impl_order_less)] from ⟨⟨fn_impl_order_less, good_impl_order_less⟩, trivial⟩), (run_impl_order_covers big x).trans h⟩

/-! impl_lattice_isEdge -/
def impl_lattice_isEdge_s (l_0 : (Option ((List (List Bool)) × ((List (List Int)) × ((List (List Int)) × Unit))))) (x_1 : Int) (y_2 : Int) : Option (Bool × Unit) :=
  (l_0).bind fun xq1 =>
  (impl_order_has xq1.1 [x_1, y_2]).bind fun rq2 =>
  cond rq2.1
  ((l_0).bind fun xq3 =>
  (impl_order_covers big xq3.1 x_1 y_2).bind fun rq4 =>
  some (rq4.1, (())))
  (some (false, (())))
def impl_lattice_isEdge (l_0 : (Option ((List (List Bool)) × ((List (List Int)) × ((List (List Int)) × Unit))))) (x_1 : Int) (y_2 : Int) : Option (Bool × Unit) := impl_lattice_isEdge_s l_0 x_1 y_2
def S_impl_lattice_isEdge : Sig := { a := (.pair (.opt (.pair (.sl (.sl .bool)) (.pair (.sl (.sl I)) (.pair (.sl (.sl I)) .unit)))) (.pair I (.pair I .unit))), md := [0, 0, 0], mf := [], m := .unit, r := .bool, rf := .i, f := fun x => impl_lattice_isEdge x.1 x.2.1 x.2.2.1 }
def A_impl_lattice_isEdge : Cfg := mkCfg tab [(92, S_impl_order_has), (141, S_impl_order_covers)] []
theorem run_impl_lattice_isEdge (N : Nat) (x : (S_impl_lattice_isEdge).a.den) : runF (A_impl_lattice_isEdge) N Try.f100 S_impl_lattice_isEdge x = impl_lattice_isEdge x.1 x.2.1 x.2.2.1 := by kernel_rfl
theorem fn_impl_lattice_isEdge : FnOk Try.prog 100 := ⟨_, Try.func100, by kernel_rfl, by kernel_rfl⟩
theorem good_impl_lattice_isEdge : Gx.Good Try.prog 100 S_impl_lattice_isEdge := good_of_run Try.func100 (of_decide_eq_true (by kernel_rfl)) fun x r h => ⟨A_impl_lattice_isEdge, big, mkCfg_ok tabOk, mkCfg_sigs (show SigsOk Try.prog [(92, S_impl_order_has), (141, S_impl_order_covers)] from ⟨⟨fn_impl_order_has, good_impl_order_has⟩, ⟨fn_impl_order_covers, good_impl_order_covers⟩, trivial⟩), (run_impl_lattice_isEdge big x).trans h⟩

/-! impl_lattice_perspective -/
def impl_lattice_perspective_s (l_0 : (Option ((List (List Bool)) × ((List (List Int)) × ((List (List Int)) × Unit))))) (e_1 : (Int × (Int × Unit))) (f_2 : (Int × (Int × Unit))) : Option (Bool × Unit) :=
  (l_0).bind fun xq1 =>
  (atI xq1.2.2.1 e_1.2.1).bind fun xq2 =>
  (atI xq2 f_2.1).bind fun xq3 =>
  cond (decide (xq3 = f_2.2.1))
  ((l_0).bind fun xq4 =>
  (atI xq4.2.1 e_1.2.1).bind fun xq5 =>
  (atI xq5 f_2.1).bind fun xq6 =>
  some (decide (xq6 = e_1.1), (())))
  (some (false, (())))
def impl_lattice_perspective (l_0 : (Option ((List (List Bool)) × ((List (List Int)) × ((List (List Int)) × Unit))))) (e_1 : (Int × (Int × Unit))) (f_2 : (Int × (Int × Unit))) : Option (Bool × Unit) := impl_lattice_perspective_s l_0 e_1 f_2
def S_impl_lattice_perspective : Sig := { a := (.pair (.opt (.pair (.sl (.sl .bool)) (.pair (.sl (.sl I)) (.pair (.sl (.sl I)) .unit)))) (.pair (.pair I (.pair I .unit)) (.pair (.pair I (.pair I .unit)) .unit))), md := [0, 0, 0], mf := [], m := .unit, r := .bool, rf := .i, f := fun x => impl_lattice_perspective x.1 x.2.1 x.2.2.1 }
def A_impl_lattice_perspective : Cfg := mkCfg tab [] []
theorem run_impl_lattice_perspective (N : Nat) (x : (S_impl_lattice_perspective).a.den) : runF (A_impl_lattice_perspective) N Try.f101 S_impl_lattice_perspective x = impl_lattice_perspective x.1 x.2.1 x.2.2.1 := by kernel_rfl
theorem fn_impl_lattice_perspective : FnOk Try.prog 101 := ⟨_, Try.func101, by kernel_rfl, by kernel_rfl⟩
theorem good_impl_lattice_perspective : Gx.Good Try.prog 101 S_impl_lattice_perspective := good_of_run Try.func101 (of_decide_eq_true (by kernel_rfl)) fun x r h => ⟨A_impl_lattice_perspective, big, mkCfg_ok tabOk, mkCfg_sigs (show SigsOk Try.prog [] from trivial), (run_impl_lattice_perspective big x).trans h⟩

/-! impl_IsPerspectiveUp -/
def impl_IsPerspectiveUp_s (p_0 : ((List (List Int)) × Unit)) (x_1 : Int) (y_2 : Int) (u_3 : Int) (v_4 : Int) : Option ((Bool × (Bool × Unit)) × Unit) :=
  (impl_smallLattice p_0).bind fun rq1 =>
  cond (!rq1.1.2.1)
  (some ((false, false, ()), (())))
  ((impl_lattice_isEdge rq1.1.1 x_1 y_2).bind fun rq2 =>
  cond (!rq2.1)
  (some ((false, false, ()), (())))
  ((impl_lattice_isEdge rq1.1.1 u_3 v_4).bind fun rq3 =>
  cond (!rq3.1)
  (some ((false, false, ()), (())))
  ((impl_lattice_perspective rq1.1.1 (x_1, (y_2, ())) (u_3, (v_4, ()))).bind fun rq4 =>
  some ((rq4.1, true, ()), (())))))
def impl_IsPerspectiveUp (p_0 : ((List (List Int)) × Unit)) (x_1 : Int) (y_2 : Int) (u_3 : Int) (v_4 : Int) : Option ((Bool × (Bool × Unit)) × Unit) := impl_IsPerspectiveUp_s p_0 x_1 y_2 u_3 v_4
def S_impl_IsPerspectiveUp : Sig := { a := (.pair (.pair (.sl (.sl I)) .unit) (.pair I (.pair I (.pair I (.pair I .unit))))), md := [0, 0, 0, 0, 0], mf := [], m := .unit, r := (.tup (.pair .bool (.pair .bool .unit))), rf := .i, f := fun x => impl_IsPerspectiveUp x.1 x.2.1 x.2.2.1 x.2.2.2.1 x.2.2.2.2.1 }
def A_impl_IsPerspectiveUp : Cfg := mkCfg tab [(99, S_impl_smallLattice), (100, S_impl_lattice_isEdge), (101, S_impl_lattice_perspective)] []
theorem run_impl_IsPerspectiveUp (N : Nat) (x : (S_impl_IsPerspectiveUp).a.den) : runF (A_impl_IsPerspectiveUp) N Try.f46 S_impl_IsPerspectiveUp x = impl_IsPerspectiveUp x.1 x.2.1 x.2.2.1 x.2.2.2.1 x.2.2.2.2.1 := by kernel_rfl
theorem fn_impl_IsPerspectiveUp : FnOk Try.prog 46 := ⟨_, Try.func46, by kernel_rfl, by kernel_rfl⟩
theorem good_impl_IsPerspectiveUp : Gx.Good Try.prog 46 S_impl_IsPerspectiveUp := good_of_run Try.func46 (of_decide_eq_true (by kernel_rfl)) fun x r h => ⟨A_impl_IsPerspectiveUp, big, mkCfg_ok tabOk, mkCfg_sigs (show SigsOk Try.prog [(99, S_impl_smallLattice), (100, S_impl_lattice_isEdge), (101, S_impl_lattice_perspective)] from ⟨⟨fn_impl_smallLattice, good_impl_smallLattice⟩, ⟨fn_impl_lattice_isEdge, good_impl_lattice_isEdge⟩, ⟨fn_impl_lattice_perspective, good_impl_lattice_perspective⟩, trivial⟩), (run_impl_IsPerspectiveUp big x).trans h⟩

/-! laws_FnExactIsPerspectiveUp -/
def laws_FnExactIsPerspectiveUp_s (aP_0 : ((List (List Int)) × Unit)) (aX_1 : Int) (aY_2 : Int) (aU_3 : Int) (aV_4 : Int) : Option (Bool × Unit) :=
  (laws_szPoset aP_0 (1048576 : Int)).bind fun rq1 =>
  cond (decide (rq1.1 < (0 : Int)))
  (some (true, (())))
  ((laws_toPoset aP_0).bind fun rq2 =>
  (spec_IsPerspectiveUp rq2.1 aX_1 aY_2 aU_3 aV_4).bind fun rq3 =>
  (laws_toPoset aP_0).bind fun rq4 =>
  (impl_IsPerspectiveUp rq4.1 aX_1 aY_2 aU_3 aV_4).bind fun rq5 =>
  cond (rq5.1.1 != rq3.1.1)
  (some (false, (())))
  (cond (rq5.1.2.1 != rq3.1.2.1)
  (some (false, (())))
  ((laws_toPoset aP_0).bind fun rq6 =>
  (laws_eqPoset rq4.1 rq6.1).bind fun rq7 =>
  cond (!rq7.1)
  (some (false, (())))
  (some (true, (()))))))
def laws_FnExactIsPerspectiveUp (aP_0 : ((List (List Int)) × Unit)) (aX_1 : Int) (aY_2 : Int) (aU_3 : Int) (aV_4 : Int) : Option (Bool × Unit) := laws_FnExactIsPerspectiveUp_s aP_0 aX_1 aY_2 aU_3 aV_4
def S_laws_FnExactIsPerspectiveUp : Sig := { a := (.pair (.pair (.sl (.sl I)) .unit) (.pair I (.pair I (.pair I (.pair I .unit))))), md := [0, 0, 0, 0, 0], mf := [], m := .unit, r := .bool, rf := .i, f := fun x => laws_FnExactIsPerspectiveUp x.1 x.2.1 x.2.2.1 x.2.2.2.1 x.2.2.2.2.1 }
def A_laws_FnExactIsPerspectiveUp : Cfg := mkCfg tab [(39, S_laws_szPoset), (41, S_laws_toPoset), (45, S_spec_IsPerspectiveUp), (46, S_impl_IsPerspectiveUp), (21, S_laws_eqPoset)] []
theorem run_laws_FnExactIsPerspectiveUp (N : Nat) (x : (S_laws_FnExactIsPerspectiveUp).a.den) : runF (A_laws_FnExactIsPerspectiveUp) N Try.f10 S_laws_FnExactIsPerspectiveUp x = laws_FnExactIsPerspectiveUp x.1 x.2.1 x.2.2.1 x.2.2.2.1 x.2.2.2.2.1 := by kernel_rfl
theorem fn_laws_FnExactIsPerspectiveUp : FnOk Try.prog 10 := ⟨_, Try.func10, by kernel_rfl, by kernel_rfl⟩
theorem good_laws_FnExactIsPerspectiveUp : Gx.Good Try.prog 10 S_laws_FnExactIsPerspectiveUp := good_of_run Try.func10 (of_decide_eq_true (by kernel_rfl)) fun x r h => ⟨A_laws_FnExactIsPerspectiveUp, big, mkCfg_ok tabOk, mkCfg_sigs (show SigsOk Try.prog [(39, S_laws_szPoset), (41, S_laws_toPoset), (45, S_spec_IsPerspectiveUp), (46, S_impl_IsPerspectiveUp), (21, S_laws_eqPoset)] from ⟨⟨fn_laws_szPoset, good_laws_szPoset⟩, ⟨fn_laws_toPoset, good_laws_toPoset⟩, ⟨fn_spec_IsPerspectiveUp, good_spec_IsPerspectiveUp⟩, ⟨fn_impl_IsPerspectiveUp, good_impl_IsPerspectiveUp⟩, ⟨fn_laws_eqPoset, good_laws_eqPoset⟩, trivial⟩), (run_laws_FnExactIsPerspectiveUp big x).trans h⟩

/-! spec_l24Irreducibles -/
def spec_l24Irreducibles_b7 (rec : ((List (List Int)) × Unit) → (List Int) → Int → Int → Int → Option ((List Int) × Unit)) (k : ((List (List Int)) × Unit) → (List Int) → Int → Int → Option ((List Int) × Unit)) (p1 : ((List (List Int)) × Unit)) (out3 : (List Int)) (y4 : Int) (n5 : Int) (x6 : Int) : Option ((List Int) × Unit) :=
  cond (decide (x6 < (p1.1.length : Int)))
  ((spec_l23Covers big p1 x6 y4).bind fun rq1 =>
  cond rq1.1
  (rec p1 out3 y4 (IntKind.i64.wrap (n5 + (1 : Int))) (IntKind.i64.wrap (x6 + (1 : Int))))
  (rec p1 out3 y4 n5 (IntKind.i64.wrap (x6 + (1 : Int)))))
  (k p1 out3 y4 n5)
def spec_l24Irreducibles_a7 (rec : ((List (List Int)) × Unit) → (List Int) → Int → Option ((List Int) × Unit)) (p1 : ((List (List Int)) × Unit)) (out3 : (List Int)) (y4 : Int) (n5 : Int) : Option ((List Int) × Unit) :=
  cond (decide (n5 = (1 : Int)))
  ((appI out3 [y4]).bind fun xq2 =>
  rec p1 xq2 (IntKind.i64.wrap (y4 + (1 : Int))))
  (rec p1 out3 (IntKind.i64.wrap (y4 + (1 : Int))))
def spec_l24Irreducibles_b3 (L7 : ((List (List Int)) × Unit) → (List Int) → Int → Int → Int → Option ((List Int) × Unit)) (k : (List Int) → Option ((List Int) × Unit)) (p1 : ((List (List Int)) × Unit)) (out3 : (List Int)) (y4 : Int) : Option ((List Int) × Unit) :=
  cond (decide (y4 < (p1.1.length : Int)))
  (L7 p1 out3 y4 (0 : Int) (0 : Int))
  (k out3)
def spec_l24Irreducibles_a3 (out3 : (List Int)) : Option ((List Int) × Unit) :=
  some (out3, (()))
def spec_l24Irreducibles_s (L3 : ((List (List Int)) × Unit) → (List Int) → Int → Option ((List Int) × Unit)) (p_0 : ((List (List Int)) × Unit)) : Option ((List Int) × Unit) :=
  L3 p_0 [] (0 : Int)
def spec_l24Irreducibles_l7 (N : Nat) (k : ((List (List Int)) × Unit) → (List Int) → Int → Int → Option ((List Int) × Unit)) : Nat → ((List (List Int)) × Unit) → (List Int) → Int → Int → Int → Option ((List Int) × Unit)
  | 0, _, _, _, _, _ => none
  | m + 1, p1, out3, y4, n5, x6 => spec_l24Irreducibles_b7 (spec_l24Irreducibles_l7 N k m) k p1 out3 y4 n5 x6
def spec_l24Irreducibles_F7 (N : Nat) (rec : ((List (List Int)) × Unit) → (List Int) → Int → Option ((List Int) × Unit)) (k : (List Int) → Option ((List Int) × Unit)) (p1 : ((List (List Int)) × Unit)) (out3 : (List Int)) (y4 : Int) (n5 : Int) (x6 : Int) : Option ((List Int) × Unit) := spec_l24Irreducibles_l7 N (spec_l24Irreducibles_a7 rec) N p1 out3 y4 n5 x6
def spec_l24Irreducibles_l3 (N : Nat) (k : (List Int) → Option ((List Int) × Unit)) : Nat → ((List (List Int)) × Unit) → (List Int) → Int → Option ((List Int) × Unit)
  | 0, _, _, _ => none
  | m + 1, p1, out3, y4 => spec_l24Irreducibles_b3 (spec_l24Irreducibles_F7 N (spec_l24Irreducibles_l3 N k m) k) k p1 out3 y4
def spec_l24Irreducibles_F3 (N : Nat) (p1 : ((List (List Int)) × Unit)) (out3 : (List Int)) (y4 : Int) : Option ((List Int) × Unit) := spec_l24Irreducibles_l3 N (spec_l24Irreducibles_a3) N p1 out3 y4
def spec_l24Irreducibles (N : Nat) (p_0 : ((List (List Int)) × Unit)) : Option ((List Int) × Unit) := spec_l24Irreducibles_s (spec_l24Irreducibles_F3 N) p_0
def S_spec_l24Irreducibles : Sig := { a := (.pair (.pair (.sl (.sl I)) .unit) .unit), md := [0], mf := [], m := .unit, r := (.sl I), rf := (.o .i), f := fun x => spec_l24Irreducibles big x.1 }
def A_spec_l24Irreducibles : Cfg := mkCfg tab [(139, S_spec_l23Covers)] [(6, [.drop, .as (.ptr (.pair (.sl (.sl I)) .unit)) (.o .i), .drop, .as (.sl I) (.o .i), .as I .i]), (14, [.drop, .as (.ptr (.pair (.sl (.sl I)) .unit)) (.o .i), .drop, .as (.sl I) (.o .i), .as I .i, .as I .i, .as I .i]), (27, [.drop, .drop, .drop, .as (.sl I) (.o .i)]), (23, [.drop, .as (.ptr (.pair (.sl (.sl I)) .unit)) (.o .i), .drop, .as (.sl I) (.o .i), .as I .i, .as I .i])]
def spec_l24Irreducibles_R3 (cd : Code) (N n : Nat) (K : Ex → St → Option ((List Int) × Unit)) (p1 : ((List (List Int)) × Unit)) (out3 : (List Int)) (y4 : Int) : Option ((List Int) × Unit) := iter ((A_spec_l24Irreducibles).shape 6) (run (A_spec_l24Irreducibles) N cd) n ([.u, .val (.ptr (.pair (.sl (.sl I)) .unit)) (.o .i) p1, .u, .val (.sl I) (.o .i) out3, .val I .i y4] ++ List.replicate 30 .u) K
def spec_l24Irreducibles_R7 (cd : Code) (N n : Nat) (K : Ex → St → Option ((List Int) × Unit)) (p1 : ((List (List Int)) × Unit)) (out3 : (List Int)) (y4 : Int) (n5 : Int) (x6 : Int) : Option ((List Int) × Unit) := iter ((A_spec_l24Irreducibles).shape 14) (run (A_spec_l24Irreducibles) N cd) n ([.u, .val (.ptr (.pair (.sl (.sl I)) .unit)) (.o .i) p1, .u, .val (.sl I) (.o .i) out3, .val I .i y4, .val I .i n5, .val I .i x6] ++ List.replicate 28 .u) K
theorem spec_l24Irreducibles_step7 (N : Nat) (m : Nat) (kX : St → Option ((List Int) × Unit)) (kO : Nat → St → Option ((List Int) × Unit)) (p1 : ((List (List Int)) × Unit)) (out3 : (List Int)) (y4 : Int) (n5 : Int) (x6 : Int) : spec_l24Irreducibles_R7 (codeAt Try.f142 [1, 1, 0, 1, 0, 0, 1, 0, 0, 1, 0, 1, 0, 0]) N (m + 1) (exK (finish (A_spec_l24Irreducibles) S_spec_l24Irreducibles Try.f142.results.toList) 2 ((A_spec_l24Irreducibles).shape 23) kX kO) p1 out3 y4 n5 x6 = spec_l24Irreducibles_b7 (spec_l24Irreducibles_R7 (codeAt Try.f142 [1, 1, 0, 1, 0, 0, 1, 0, 0, 1, 0, 1, 0, 0]) N m (exK (finish (A_spec_l24Irreducibles) S_spec_l24Irreducibles Try.f142.results.toList) 2 ((A_spec_l24Irreducibles).shape 23) kX kO)) (fun (p1 : ((List (List Int)) × Unit)) (out3 : (List Int)) (y4 : Int) (n5 : Int) => kX ([.u, .val (.ptr (.pair (.sl (.sl I)) .unit)) (.o .i) p1, .u, .val (.sl I) (.o .i) out3, .val I .i y4, .val I .i n5] ++ List.replicate 29 .u)) p1 out3 y4 n5 x6 := by kernel_rfl
theorem spec_l24Irreducibles_iter7 (N : Nat) (kX : St → Option ((List Int) × Unit)) (kO : Nat → St → Option ((List Int) × Unit)) : ∀ (n : Nat) (p1 : ((List (List Int)) × Unit)) (out3 : (List Int)) (y4 : Int) (n5 : Int) (x6 : Int), spec_l24Irreducibles_R7 (codeAt Try.f142 [1, 1, 0, 1, 0, 0, 1, 0, 0, 1, 0, 1, 0, 0]) N n (exK (finish (A_spec_l24Irreducibles) S_spec_l24Irreducibles Try.f142.results.toList) 2 ((A_spec_l24Irreducibles).shape 23) kX kO) p1 out3 y4 n5 x6 = spec_l24Irreducibles_l7 N (fun (p1 : ((List (List Int)) × Unit)) (out3 : (List Int)) (y4 : Int) (n5 : Int) => kX ([.u, .val (.ptr (.pair (.sl (.sl I)) .unit)) (.o .i) p1, .u, .val (.sl I) (.o .i) out3, .val I .i y4, .val I .i n5] ++ List.replicate 29 .u)) n p1 out3 y4 n5 x6
  | 0, _, _, _, _, _ => rfl
  | m + 1, p1, out3, y4, n5, x6 => by
    have hrec : spec_l24Irreducibles_R7 (codeAt Try.f142 [1, 1, 0, 1, 0, 0, 1, 0, 0, 1, 0, 1, 0, 0]) N m (exK (finish (A_spec_l24Irreducibles) S_spec_l24Irreducibles Try.f142.results.toList) 2 ((A_spec_l24Irreducibles).shape 23) kX kO) = (spec_l24Irreducibles_l7 N (fun (p1 : ((List (List Int)) × Unit)) (out3 : (List Int)) (y4 : Int) (n5 : Int) => kX ([.u, .val (.ptr (.pair (.sl (.sl I)) .unit)) (.o .i) p1, .u, .val (.sl I) (.o .i) out3, .val I .i y4, .val I .i n5] ++ List.replicate 29 .u)) m) := (funext fun p1 => (funext fun out3 => (funext fun y4 => (funext fun n5 => (funext fun x6 => spec_l24Irreducibles_iter7 N kX kO m p1 out3 y4 n5 x6)))))
    refine (spec_l24Irreducibles_step7 N m kX kO p1 out3 y4 n5 x6).trans ?_
    rw [hrec]
    rfl
theorem spec_l24Irreducibles_after7 (N : Nat) (m : Nat) (kX : St → Option ((List Int) × Unit)) (kO : Nat → St → Option ((List Int) × Unit)) (p1 : ((List (List Int)) × Unit)) (out3 : (List Int)) (y4 : Int) (n5 : Int) : (fun st' => run (A_spec_l24Irreducibles) N (codeAt Try.f142 [1, 1, 0, 1, 0, 0, 1, 0, 0, 1, 1]) st' (blockK 1 (seqK ((A_spec_l24Irreducibles).shape 9) (run (A_spec_l24Irreducibles) N (codeAt Try.f142 [1, 1, 0, 1, 0, 0, 1, 1])) (iterK ((A_spec_l24Irreducibles).shape 6) (run (A_spec_l24Irreducibles) N (codeAt Try.f142 [1, 1, 0, 1, 0, 0])) m (exK (finish (A_spec_l24Irreducibles) S_spec_l24Irreducibles Try.f142.results.toList) 0 ((A_spec_l24Irreducibles).shape 27) kX kO))))) ([.u, .val (.ptr (.pair (.sl (.sl I)) .unit)) (.o .i) p1, .u, .val (.sl I) (.o .i) out3, .val I .i y4, .val I .i n5] ++ List.replicate 29 .u) = spec_l24Irreducibles_a7 (spec_l24Irreducibles_R3 (codeAt Try.f142 [1, 1, 0, 1, 0, 0]) N m (exK (finish (A_spec_l24Irreducibles) S_spec_l24Irreducibles Try.f142.results.toList) 0 ((A_spec_l24Irreducibles).shape 27) kX kO)) p1 out3 y4 n5 := by kernel_rfl
theorem spec_l24Irreducibles_in7 (N : Nat) (m : Nat) (kX : St → Option ((List Int) × Unit)) (kO : Nat → St → Option ((List Int) × Unit)) (recF : ((List (List Int)) × Unit) → (List Int) → Int → Option ((List Int) × Unit)) (hrec : spec_l24Irreducibles_R3 (codeAt Try.f142 [1, 1, 0, 1, 0, 0]) N m (exK (finish (A_spec_l24Irreducibles) S_spec_l24Irreducibles Try.f142.results.toList) 0 ((A_spec_l24Irreducibles).shape 27) kX kO) = recF) (p1 : ((List (List Int)) × Unit)) (out3 : (List Int)) (y4 : Int) (n5 : Int) (x6 : Int) : spec_l24Irreducibles_R7 (codeAt Try.f142 [1, 1, 0, 1, 0, 0, 1, 0, 0, 1, 0, 1, 0, 0]) N N (blockK 2 (seqK ((A_spec_l24Irreducibles).shape 23) (run (A_spec_l24Irreducibles) N (codeAt Try.f142 [1, 1, 0, 1, 0, 0, 1, 0, 0, 1, 1])) (blockK 1 (seqK ((A_spec_l24Irreducibles).shape 9) (run (A_spec_l24Irreducibles) N (codeAt Try.f142 [1, 1, 0, 1, 0, 0, 1, 1])) (iterK ((A_spec_l24Irreducibles).shape 6) (run (A_spec_l24Irreducibles) N (codeAt Try.f142 [1, 1, 0, 1, 0, 0])) m (exK (finish (A_spec_l24Irreducibles) S_spec_l24Irreducibles Try.f142.results.toList) 0 ((A_spec_l24Irreducibles).shape 27) kX kO)))))) p1 out3 y4 n5 x6 = spec_l24Irreducibles_F7 N recF (fun (out3 : (List Int)) => kX ([.u, .u, .u, .val (.sl I) (.o .i) out3] ++ List.replicate 31 .u)) p1 out3 y4 n5 x6 :=
  have h : (fun (p1 : ((List (List Int)) × Unit)) (out3 : (List Int)) (y4 : Int) (n5 : Int) => (fun st' => run (A_spec_l24Irreducibles) N (codeAt Try.f142 [1, 1, 0, 1, 0, 0, 1, 0, 0, 1, 1]) st' (blockK 1 (seqK ((A_spec_l24Irreducibles).shape 9) (run (A_spec_l24Irreducibles) N (codeAt Try.f142 [1, 1, 0, 1, 0, 0, 1, 1])) (iterK ((A_spec_l24Irreducibles).shape 6) (run (A_spec_l24Irreducibles) N (codeAt Try.f142 [1, 1, 0, 1, 0, 0])) m (exK (finish (A_spec_l24Irreducibles) S_spec_l24Irreducibles Try.f142.results.toList) 0 ((A_spec_l24Irreducibles).shape 27) kX kO))))) ([.u, .val (.ptr (.pair (.sl (.sl I)) .unit)) (.o .i) p1, .u, .val (.sl I) (.o .i) out3, .val I .i y4, .val I .i n5] ++ List.replicate 29 .u)) = (spec_l24Irreducibles_a7 recF) := (funext fun p1 => (funext fun out3 => (funext fun y4 => (funext fun n5 => (spec_l24Irreducibles_after7 N m kX kO p1 out3 y4 n5).trans (by rw [hrec])))))
  have e : spec_l24Irreducibles_R7 (codeAt Try.f142 [1, 1, 0, 1, 0, 0, 1, 0, 0, 1, 0, 1, 0, 0]) N N (blockK 2 (seqK ((A_spec_l24Irreducibles).shape 23) (run (A_spec_l24Irreducibles) N (codeAt Try.f142 [1, 1, 0, 1, 0, 0, 1, 0, 0, 1, 1])) (blockK 1 (seqK ((A_spec_l24Irreducibles).shape 9) (run (A_spec_l24Irreducibles) N (codeAt Try.f142 [1, 1, 0, 1, 0, 0, 1, 1])) (iterK ((A_spec_l24Irreducibles).shape 6) (run (A_spec_l24Irreducibles) N (codeAt Try.f142 [1, 1, 0, 1, 0, 0])) m (exK (finish (A_spec_l24Irreducibles) S_spec_l24Irreducibles Try.f142.results.toList) 0 ((A_spec_l24Irreducibles).shape 27) kX kO)))))) p1 out3 y4 n5 x6 = spec_l24Irreducibles_R7 (codeAt Try.f142 [1, 1, 0, 1, 0, 0, 1, 0, 0, 1, 0, 1, 0, 0]) N N (exK (finish (A_spec_l24Irreducibles) S_spec_l24Irreducibles Try.f142.results.toList) 2 ((A_spec_l24Irreducibles).shape 23) (fun st' => run (A_spec_l24Irreducibles) N (codeAt Try.f142 [1, 1, 0, 1, 0, 0, 1, 0, 0, 1, 1]) st' (blockK 1 (seqK ((A_spec_l24Irreducibles).shape 9) (run (A_spec_l24Irreducibles) N (codeAt Try.f142 [1, 1, 0, 1, 0, 0, 1, 1])) (iterK ((A_spec_l24Irreducibles).shape 6) (run (A_spec_l24Irreducibles) N (codeAt Try.f142 [1, 1, 0, 1, 0, 0])) m (exK (finish (A_spec_l24Irreducibles) S_spec_l24Irreducibles Try.f142.results.toList) 0 ((A_spec_l24Irreducibles).shape 27) kX kO))))) (fun j st => (blockK 2 (seqK ((A_spec_l24Irreducibles).shape 23) (run (A_spec_l24Irreducibles) N (codeAt Try.f142 [1, 1, 0, 1, 0, 0, 1, 0, 0, 1, 1])) (blockK 1 (seqK ((A_spec_l24Irreducibles).shape 9) (run (A_spec_l24Irreducibles) N (codeAt Try.f142 [1, 1, 0, 1, 0, 0, 1, 1])) (iterK ((A_spec_l24Irreducibles).shape 6) (run (A_spec_l24Irreducibles) N (codeAt Try.f142 [1, 1, 0, 1, 0, 0])) m (exK (finish (A_spec_l24Irreducibles) S_spec_l24Irreducibles Try.f142.results.toList) 0 ((A_spec_l24Irreducibles).shape 27) kX kO)))))) (.exit j) st)) p1 out3 y4 n5 x6 := iter_ex (fun st => by kernel_rfl) (fun st => by kernel_rfl)
  (e.trans (spec_l24Irreducibles_iter7 N (fun st' => run (A_spec_l24Irreducibles) N (codeAt Try.f142 [1, 1, 0, 1, 0, 0, 1, 0, 0, 1, 1]) st' (blockK 1 (seqK ((A_spec_l24Irreducibles).shape 9) (run (A_spec_l24Irreducibles) N (codeAt Try.f142 [1, 1, 0, 1, 0, 0, 1, 1])) (iterK ((A_spec_l24Irreducibles).shape 6) (run (A_spec_l24Irreducibles) N (codeAt Try.f142 [1, 1, 0, 1, 0, 0])) m (exK (finish (A_spec_l24Irreducibles) S_spec_l24Irreducibles Try.f142.results.toList) 0 ((A_spec_l24Irreducibles).shape 27) kX kO))))) (fun j st => (blockK 2 (seqK ((A_spec_l24Irreducibles).shape 23) (run (A_spec_l24Irreducibles) N (codeAt Try.f142 [1, 1, 0, 1, 0, 0, 1, 0, 0, 1, 1])) (blockK 1 (seqK ((A_spec_l24Irreducibles).shape 9) (run (A_spec_l24Irreducibles) N (codeAt Try.f142 [1, 1, 0, 1, 0, 0, 1, 1])) (iterK ((A_spec_l24Irreducibles).shape 6) (run (A_spec_l24Irreducibles) N (codeAt Try.f142 [1, 1, 0, 1, 0, 0])) m (exK (finish (A_spec_l24Irreducibles) S_spec_l24Irreducibles Try.f142.results.toList) 0 ((A_spec_l24Irreducibles).shape 27) kX kO)))))) (.exit j) st) N p1 out3 y4 n5 x6)).trans (congrArg (fun k => spec_l24Irreducibles_l7 N k N p1 out3 y4 n5 x6) h)
theorem spec_l24Irreducibles_step3 (N : Nat) (m : Nat) (kX : St → Option ((List Int) × Unit)) (kO : Nat → St → Option ((List Int) × Unit)) (p1 : ((List (List Int)) × Unit)) (out3 : (List Int)) (y4 : Int) : spec_l24Irreducibles_R3 (codeAt Try.f142 [1, 1, 0, 1, 0, 0]) N (m + 1) (exK (finish (A_spec_l24Irreducibles) S_spec_l24Irreducibles Try.f142.results.toList) 0 ((A_spec_l24Irreducibles).shape 27) kX kO) p1 out3 y4 = spec_l24Irreducibles_b3 (spec_l24Irreducibles_R7 (codeAt Try.f142 [1, 1, 0, 1, 0, 0, 1, 0, 0, 1, 0, 1, 0, 0]) N N (blockK 2 (seqK ((A_spec_l24Irreducibles).shape 23) (run (A_spec_l24Irreducibles) N (codeAt Try.f142 [1, 1, 0, 1, 0, 0, 1, 0, 0, 1, 1])) (blockK 1 (seqK ((A_spec_l24Irreducibles).shape 9) (run (A_spec_l24Irreducibles) N (codeAt Try.f142 [1, 1, 0, 1, 0, 0, 1, 1])) (iterK ((A_spec_l24Irreducibles).shape 6) (run (A_spec_l24Irreducibles) N (codeAt Try.f142 [1, 1, 0, 1, 0, 0])) m (exK (finish (A_spec_l24Irreducibles) S_spec_l24Irreducibles Try.f142.results.toList) 0 ((A_spec_l24Irreducibles).shape 27) kX kO))))))) (fun (out3 : (List Int)) => kX ([.u, .u, .u, .val (.sl I) (.o .i) out3] ++ List.replicate 31 .u)) p1 out3 y4 := by kernel_rfl
theorem spec_l24Irreducibles_iter3 (N : Nat) (kX : St → Option ((List Int) × Unit)) (kO : Nat → St → Option ((List Int) × Unit)) : ∀ (n : Nat) (p1 : ((List (List Int)) × Unit)) (out3 : (List Int)) (y4 : Int), spec_l24Irreducibles_R3 (codeAt Try.f142 [1, 1, 0, 1, 0, 0]) N n (exK (finish (A_spec_l24Irreducibles) S_spec_l24Irreducibles Try.f142.results.toList) 0 ((A_spec_l24Irreducibles).shape 27) kX kO) p1 out3 y4 = spec_l24Irreducibles_l3 N (fun (out3 : (List Int)) => kX ([.u, .u, .u, .val (.sl I) (.o .i) out3] ++ List.replicate 31 .u)) n p1 out3 y4
  | 0, _, _, _ => rfl
  | m + 1, p1, out3, y4 => by
    have hrec : spec_l24Irreducibles_R3 (codeAt Try.f142 [1, 1, 0, 1, 0, 0]) N m (exK (finish (A_spec_l24Irreducibles) S_spec_l24Irreducibles Try.f142.results.toList) 0 ((A_spec_l24Irreducibles).shape 27) kX kO) = (spec_l24Irreducibles_l3 N (fun (out3 : (List Int)) => kX ([.u, .u, .u, .val (.sl I) (.o .i) out3] ++ List.replicate 31 .u)) m) := (funext fun p1 => (funext fun out3 => (funext fun y4 => spec_l24Irreducibles_iter3 N kX kO m p1 out3 y4)))
    refine (spec_l24Irreducibles_step3 N m kX kO p1 out3 y4).trans ?_
    rw [(funext fun p1 => (funext fun out3 => (funext fun y4 => (funext fun n5 => (funext fun x6 => spec_l24Irreducibles_in7 N m kX kO (spec_l24Irreducibles_l3 N (fun (out3 : (List Int)) => kX ([.u, .u, .u, .val (.sl I) (.o .i) out3] ++ List.replicate 31 .u)) m) hrec p1 out3 y4 n5 x6)))))]
    rfl
theorem spec_l24Irreducibles_after3 (N : Nat) (out3 : (List Int)) : (fun st' => run (A_spec_l24Irreducibles) N (codeAt Try.f142 [1, 1, 1]) st' (finish (A_spec_l24Irreducibles) S_spec_l24Irreducibles Try.f142.results.toList)) ([.u, .u, .u, .val (.sl I) (.o .i) out3] ++ List.replicate 31 .u) = spec_l24Irreducibles_a3 out3 := by kernel_rfl
theorem spec_l24Irreducibles_in3 (N : Nat) (p1 : ((List (List Int)) × Unit)) (out3 : (List Int)) (y4 : Int) : spec_l24Irreducibles_R3 (codeAt Try.f142 [1, 1, 0, 1, 0, 0]) N N (blockK 0 (seqK ((A_spec_l24Irreducibles).shape 27) (run (A_spec_l24Irreducibles) N (codeAt Try.f142 [1, 1, 1])) (finish (A_spec_l24Irreducibles) S_spec_l24Irreducibles Try.f142.results.toList))) p1 out3 y4 = spec_l24Irreducibles_F3 N p1 out3 y4 :=
  have h : (fun (out3 : (List Int)) => (fun st' => run (A_spec_l24Irreducibles) N (codeAt Try.f142 [1, 1, 1]) st' (finish (A_spec_l24Irreducibles) S_spec_l24Irreducibles Try.f142.results.toList)) ([.u, .u, .u, .val (.sl I) (.o .i) out3] ++ List.replicate 31 .u)) = (spec_l24Irreducibles_a3) := (funext fun out3 => spec_l24Irreducibles_after3 N out3)
  have e : spec_l24Irreducibles_R3 (codeAt Try.f142 [1, 1, 0, 1, 0, 0]) N N (blockK 0 (seqK ((A_spec_l24Irreducibles).shape 27) (run (A_spec_l24Irreducibles) N (codeAt Try.f142 [1, 1, 1])) (finish (A_spec_l24Irreducibles) S_spec_l24Irreducibles Try.f142.results.toList))) p1 out3 y4 = spec_l24Irreducibles_R3 (codeAt Try.f142 [1, 1, 0, 1, 0, 0]) N N (exK (finish (A_spec_l24Irreducibles) S_spec_l24Irreducibles Try.f142.results.toList) 0 ((A_spec_l24Irreducibles).shape 27) (fun st' => run (A_spec_l24Irreducibles) N (codeAt Try.f142 [1, 1, 1]) st' (finish (A_spec_l24Irreducibles) S_spec_l24Irreducibles Try.f142.results.toList)) (fun j st => (blockK 0 (seqK ((A_spec_l24Irreducibles).shape 27) (run (A_spec_l24Irreducibles) N (codeAt Try.f142 [1, 1, 1])) (finish (A_spec_l24Irreducibles) S_spec_l24Irreducibles Try.f142.results.toList))) (.exit j) st)) p1 out3 y4 := iter_ex (fun st => by kernel_rfl) (fun st => by kernel_rfl)
  (e.trans (spec_l24Irreducibles_iter3 N (fun st' => run (A_spec_l24Irreducibles) N (codeAt Try.f142 [1, 1, 1]) st' (finish (A_spec_l24Irreducibles) S_spec_l24Irreducibles Try.f142.results.toList)) (fun j st => (blockK 0 (seqK ((A_spec_l24Irreducibles).shape 27) (run (A_spec_l24Irreducibles) N (codeAt Try.f142 [1, 1, 1])) (finish (A_spec_l24Irreducibles) S_spec_l24Irreducibles Try.f142.results.toList))) (.exit j) st) N p1 out3 y4)).trans (congrArg (fun k => spec_l24Irreducibles_l3 N k N p1 out3 y4) h)
theorem run0_spec_l24Irreducibles (N : Nat) (x : (S_spec_l24Irreducibles).a.den) : runF (A_spec_l24Irreducibles) N Try.f142 S_spec_l24Irreducibles x = (spec_l24Irreducibles_s (spec_l24Irreducibles_R3 (codeAt Try.f142 [1, 1, 0, 1, 0, 0]) N N (blockK 0 (seqK ((A_spec_l24Irreducibles).shape 27) (run (A_spec_l24Irreducibles) N (codeAt Try.f142 [1, 1, 1])) (finish (A_spec_l24Irreducibles) S_spec_l24Irreducibles Try.f142.results.toList)))) x.1) := by kernel_rfl
theorem run_spec_l24Irreducibles (N : Nat) (x : (S_spec_l24Irreducibles).a.den) : runF (A_spec_l24Irreducibles) N Try.f142 S_spec_l24Irreducibles x = spec_l24Irreducibles N x.1 := by
  refine (run0_spec_l24Irreducibles N x).trans ?_
  rw [(funext fun p1 => (funext fun out3 => (funext fun y4 => spec_l24Irreducibles_in3 N p1 out3 y4)))]
  rfl
theorem fn_spec_l24Irreducibles : FnOk Try.prog 142 := ⟨_, Try.func142, by kernel_rfl, by kernel_rfl⟩
theorem good_spec_l24Irreducibles : Gx.Good Try.prog 142 S_spec_l24Irreducibles := good_of_run Try.func142 (of_decide_eq_true (by kernel_rfl)) fun x r h => ⟨A_spec_l24Irreducibles, big, mkCfg_ok tabOk, mkCfg_sigs (show SigsOk Try.prog [(139, S_spec_l23Covers)] from ⟨⟨fn_spec_l23Covers, good_spec_l23Covers⟩, trivial⟩), (run_spec_l24Irreducibles big x).trans h⟩

/-! spec_l27Is -/
def spec_l27Is_s (p_0 : ((List (List Int)) × Unit)) (j_1 : Int) : Option (Bool × Unit) :=
  (spec_l24Irreducibles big p_0).bind fun rq1 =>
  (spec_l1Has big rq1.1 j_1).bind fun rq2 =>
  some (rq2.1, (()))
def spec_l27Is (p_0 : ((List (List Int)) × Unit)) (j_1 : Int) : Option (Bool × Unit) := spec_l27Is_s p_0 j_1
def S_spec_l27Is : Sig := { a := (.pair (.pair (.sl (.sl I)) .unit) (.pair I .unit)), md := [0, 0], mf := [], m := .unit, r := .bool, rf := .i, f := fun x => spec_l27Is x.1 x.2.1 }
def A_spec_l27Is : Cfg := mkCfg tab [(142, S_spec_l24Irreducibles), (131, S_spec_l1Has)] []
theorem run_spec_l27Is (N : Nat) (x : (S_spec_l27Is).a.den) : runF (A_spec_l27Is) N Try.f102 S_spec_l27Is x = spec_l27Is x.1 x.2.1 := by kernel_rfl
theorem fn_spec_l27Is : FnOk Try.prog 102 := ⟨_, Try.func102, by kernel_rfl, by kernel_rfl⟩
theorem good_spec_l27Is : Gx.Good Try.prog 102 S_spec_l27Is := good_of_run Try.func102 (of_decide_eq_true (by kernel_rfl)) fun x r h => ⟨A_spec_l27Is, big, mkCfg_ok tabOk, mkCfg_sigs (show SigsOk Try.prog [(142, S_spec_l24Irreducibles), (131, S_spec_l1Has)] from ⟨⟨fn_spec_l24Irreducibles, good_spec_l24Irreducibles⟩, ⟨fn_spec_l1Has, good_spec_l1Has⟩, trivial⟩), (run_spec_l27Is big x).trans h⟩

/-! spec_l27Star -/
def spec_l27Star_b2 (rec : Int → ((List (List Int)) × Unit) → Int → Option (Int × Unit)) (k : Int → Option (Int × Unit)) (j1 : Int) (p2 : ((List (List Int)) × Unit)) (x5 : Int) : Option (Int × Unit) :=
  (spec_l23Covers big p2 x5 j1).bind fun rq1 =>
  cond (!rq1.1)
  (rec j1 p2 (IntKind.i64.wrap (x5 + (1 : Int))))
  (k x5)
def spec_l27Star_a2 (x5 : Int) : Option (Int × Unit) :=
  some (x5, (()))
def spec_l27Star_s (L2 : Int → ((List (List Int)) × Unit) → Int → Option (Int × Unit)) (p_0 : ((List (List Int)) × Unit)) (j_1 : Int) : Option (Int × Unit) :=
  L2 j_1 p_0 (0 : Int)
def spec_l27Star_l2 (N : Nat) (k : Int → Option (Int × Unit)) : Nat → Int → ((List (List Int)) × Unit) → Int → Option (Int × Unit)
  | 0, _, _, _ => none
  | m + 1, j1, p2, x5 => spec_l27Star_b2 (spec_l27Star_l2 N k m) k j1 p2 x5
def spec_l27Star_F2 (N : Nat) (j1 : Int) (p2 : ((List (List Int)) × Unit)) (x5 : Int) : Option (Int × Unit) := spec_l27Star_l2 N (spec_l27Star_a2) N j1 p2 x5
def spec_l27Star (N : Nat) (p_0 : ((List (List Int)) × Unit)) (j_1 : Int) : Option (Int × Unit) := spec_l27Star_s (spec_l27Star_F2 N) p_0 j_1
def S_spec_l27Star : Sig := { a := (.pair (.pair (.sl (.sl I)) .unit) (.pair I .unit)), md := [0, 0], mf := [], m := .unit, r := I, rf := .i, f := fun x => spec_l27Star big x.1 x.2.1 }
def A_spec_l27Star : Cfg := mkCfg tab [(139, S_spec_l23Covers)] [(4, [.drop, .as I .i, .as (.ptr (.pair (.sl (.sl I)) .unit)) (.o .i), .drop, .drop, .as I .i]), (9, [.drop, .drop, .drop, .drop, .drop, .as I .i])]
def spec_l27Star_R2 (cd : Code) (N n : Nat) (K : Ex → St → Option (Int × Unit)) (j1 : Int) (p2 : ((List (List Int)) × Unit)) (x5 : Int) : Option (Int × Unit) := iter ((A_spec_l27Star).shape 4) (run (A_spec_l27Star) N cd) n ([.u, .val I .i j1, .val (.ptr (.pair (.sl (.sl I)) .unit)) (.o .i) p2, .u, .u, .val I .i x5] ++ List.replicate 8 .u) K
theorem spec_l27Star_step2 (N : Nat) (m : Nat) (kX : St → Option (Int × Unit)) (kO : Nat → St → Option (Int × Unit)) (j1 : Int) (p2 : ((List (List Int)) × Unit)) (x5 : Int) : spec_l27Star_R2 (codeAt Try.f103 [1, 1, 0, 0, 0]) N (m + 1) (exK (finish (A_spec_l27Star) S_spec_l27Star Try.f103.results.toList) 0 ((A_spec_l27Star).shape 9) kX kO) j1 p2 x5 = spec_l27Star_b2 (spec_l27Star_R2 (codeAt Try.f103 [1, 1, 0, 0, 0]) N m (exK (finish (A_spec_l27Star) S_spec_l27Star Try.f103.results.toList) 0 ((A_spec_l27Star).shape 9) kX kO)) (fun (x5 : Int) => kX ([.u, .u, .u, .u, .u, .val I .i x5] ++ List.replicate 8 .u)) j1 p2 x5 := by kernel_rfl
theorem spec_l27Star_iter2 (N : Nat) (kX : St → Option (Int × Unit)) (kO : Nat → St → Option (Int × Unit)) : ∀ (n : Nat) (j1 : Int) (p2 : ((List (List Int)) × Unit)) (x5 : Int), spec_l27Star_R2 (codeAt Try.f103 [1, 1, 0, 0, 0]) N n (exK (finish (A_spec_l27Star) S_spec_l27Star Try.f103.results.toList) 0 ((A_spec_l27Star).shape 9) kX kO) j1 p2 x5 = spec_l27Star_l2 N (fun (x5 : Int) => kX ([.u, .u, .u, .u, .u, .val I .i x5] ++ List.replicate 8 .u)) n j1 p2 x5
  | 0, _, _, _ => rfl
  | m + 1, j1, p2, x5 => by
    have hrec : spec_l27Star_R2 (codeAt Try.f103 [1, 1, 0, 0, 0]) N m (exK (finish (A_spec_l27Star) S_spec_l27Star Try.f103.results.toList) 0 ((A_spec_l27Star).shape 9) kX kO) = (spec_l27Star_l2 N (fun (x5 : Int) => kX ([.u, .u, .u, .u, .u, .val I .i x5] ++ List.replicate 8 .u)) m) := (funext fun j1 => (funext fun p2 => (funext fun x5 => spec_l27Star_iter2 N kX kO m j1 p2 x5)))
    refine (spec_l27Star_step2 N m kX kO j1 p2 x5).trans ?_
    rw [hrec]
    rfl
theorem spec_l27Star_after2 (N : Nat) (x5 : Int) : (fun st' => run (A_spec_l27Star) N (codeAt Try.f103 [1, 1, 1]) st' (finish (A_spec_l27Star) S_spec_l27Star Try.f103.results.toList)) ([.u, .u, .u, .u, .u, .val I .i x5] ++ List.replicate 8 .u) = spec_l27Star_a2 x5 := by kernel_rfl
theorem spec_l27Star_in2 (N : Nat) (j1 : Int) (p2 : ((List (List Int)) × Unit)) (x5 : Int) : spec_l27Star_R2 (codeAt Try.f103 [1, 1, 0, 0, 0]) N N (blockK 0 (seqK ((A_spec_l27Star).shape 9) (run (A_spec_l27Star) N (codeAt Try.f103 [1, 1, 1])) (finish (A_spec_l27Star) S_spec_l27Star Try.f103.results.toList))) j1 p2 x5 = spec_l27Star_F2 N j1 p2 x5 :=
  have h : (fun (x5 : Int) => (fun st' => run (A_spec_l27Star) N (codeAt Try.f103 [1, 1, 1]) st' (finish (A_spec_l27Star) S_spec_l27Star Try.f103.results.toList)) ([.u, .u, .u, .u, .u, .val I .i x5] ++ List.replicate 8 .u)) = (spec_l27Star_a2) := (funext fun x5 => spec_l27Star_after2 N x5)
  have e : spec_l27Star_R2 (codeAt Try.f103 [1, 1, 0, 0, 0]) N N (blockK 0 (seqK ((A_spec_l27Star).shape 9) (run (A_spec_l27Star) N (codeAt Try.f103 [1, 1, 1])) (finish (A_spec_l27Star) S_spec_l27Star Try.f103.results.toList))) j1 p2 x5 = spec_l27Star_R2 (codeAt Try.f103 [1, 1, 0, 0, 0]) N N (exK (finish (A_spec_l27Star) S_spec_l27Star Try.f103.results.toList) 0 ((A_spec_l27Star).shape 9) (fun st' => run (A_spec_l27Star) N (codeAt Try.f103 [1, 1, 1]) st' (finish (A_spec_l27Star) S_spec_l27Star Try.f103.results.toList)) (fun j st => (blockK 0 (seqK ((A_spec_l27Star).shape 9) (run (A_spec_l27Star) N (codeAt Try.f103 [1, 1, 1])) (finish (A_spec_l27Star) S_spec_l27Star Try.f103.results.toList))) (.exit j) st)) j1 p2 x5 := iter_ex (fun st => by kernel_rfl) (fun st => by kernel_rfl)
  (e.trans (spec_l27Star_iter2 N (fun st' => run (A_spec_l27Star) N (codeAt Try.f103 [1, 1, 1]) st' (finish (A_spec_l27Star) S_spec_l27Star Try.f103.results.toList)) (fun j st => (blockK 0 (seqK ((A_spec_l27Star).shape 9) (run (A_spec_l27Star) N (codeAt Try.f103 [1, 1, 1])) (finish (A_spec_l27Star) S_spec_l27Star Try.f103.results.toList))) (.exit j) st) N j1 p2 x5)).trans (congrArg (fun k => spec_l27Star_l2 N k N j1 p2 x5) h)
theorem run0_spec_l27Star (N : Nat) (x : (S_spec_l27Star).a.den) : runF (A_spec_l27Star) N Try.f103 S_spec_l27Star x = (spec_l27Star_s (spec_l27Star_R2 (codeAt Try.f103 [1, 1, 0, 0, 0]) N N (blockK 0 (seqK ((A_spec_l27Star).shape 9) (run (A_spec_l27Star) N (codeAt Try.f103 [1, 1, 1])) (finish (A_spec_l27Star) S_spec_l27Star Try.f103.results.toList)))) x.1 x.2.1) := by kernel_rfl
theorem run_spec_l27Star (N : Nat) (x : (S_spec_l27Star).a.den) : runF (A_spec_l27Star) N Try.f103 S_spec_l27Star x = spec_l27Star N x.1 x.2.1 := by
  refine (run0_spec_l27Star N x).trans ?_
  rw [(funext fun j1 => (funext fun p2 => (funext fun x5 => spec_l27Star_in2 N j1 p2 x5)))]
  rfl
theorem fn_spec_l27Star : FnOk Try.prog 103 := ⟨_, Try.func103, by kernel_rfl, by kernel_rfl⟩
theorem good_spec_l27Star : Gx.Good Try.prog 103 S_spec_l27Star := good_of_run Try.func103 (of_decide_eq_true (by kernel_rfl)) fun x r h => ⟨A_spec_l27Star, big, mkCfg_ok tabOk, mkCfg_sigs (show SigsOk Try.prog [(139, S_spec_l23Covers)] from ⟨⟨fn_spec_l23Covers, good_spec_l23Covers⟩, trivial⟩), (run_spec_l27Star big x).trans h⟩

/-! spec_StarOf -/
def spec_StarOf_s (p_0 : ((List (List Int)) × Unit)) (j_1 : Int) : Option ((Int × (Bool × Unit)) × Unit) :=
  (spec_l27Takes p_0).bind fun rq1 =>
  cond (!rq1.1)
  (some (((0 : Int), false, ()), (())))
  ((spec_l27Is p_0 j_1).bind fun rq2 =>
  cond (!rq2.1)
  (some (((0 : Int), false, ()), (())))
  ((spec_l27Star big p_0 j_1).bind fun rq3 =>
  some ((rq3.1, true, ()), (()))))
def spec_StarOf (p_0 : ((List (List Int)) × Unit)) (j_1 : Int) : Option ((Int × (Bool × Unit)) × Unit) := spec_StarOf_s p_0 j_1
def S_spec_StarOf : Sig := { a := (.pair (.pair (.sl (.sl I)) .unit) (.pair I .unit)), md := [0, 0], mf := [], m := .unit, r := (.tup (.pair I (.pair .bool .unit))), rf := .i, f := fun x => spec_StarOf x.1 x.2.1 }
def A_spec_StarOf : Cfg := mkCfg tab [(96, S_spec_l27Takes), (102, S_spec_l27Is), (103, S_spec_l27Star)] []
theorem run_spec_StarOf (N : Nat) (x : (S_spec_StarOf).a.den) : runF (A_spec_StarOf) N Try.f47 S_spec_StarOf x = spec_StarOf x.1 x.2.1 := by kernel_rfl
theorem fn_spec_StarOf : FnOk Try.prog 47 := ⟨_, Try.func47, by kernel_rfl, by kernel_rfl⟩
theorem good_spec_StarOf : Gx.Good Try.prog 47 S_spec_StarOf := good_of_run Try.func47 (of_decide_eq_true (by kernel_rfl)) fun x r h => ⟨A_spec_StarOf, big, mkCfg_ok tabOk, mkCfg_sigs (show SigsOk Try.prog [(96, S_spec_l27Takes), (102, S_spec_l27Is), (103, S_spec_l27Star)] from ⟨⟨fn_spec_l27Takes, good_spec_l27Takes⟩, ⟨fn_spec_l27Is, good_spec_l27Is⟩, ⟨fn_spec_l27Star, good_spec_l27Star⟩, trivial⟩), (run_spec_StarOf big x).trans h⟩

/-! impl_order_lowerCovers_c1 -/
def impl_order_lowerCovers_c1_s (y_0 : Int) (p_1 : (List (List Bool))) (p_2 : Int) : Option (Bool × Unit) :=
  (impl_order_covers big p_1 y_0 p_2).bind fun rq1 =>
  some (rq1.1, (()))
def impl_order_lowerCovers_c1 (y_0 : Int) (p_1 : (List (List Bool))) (p_2 : Int) : Option (Bool × Unit) := impl_order_lowerCovers_c1_s y_0 p_1 p_2
def S_impl_order_lowerCovers_c1 : Sig := { a := (.pair I (.pair (.ptr (.sl (.sl .bool))) (.pair (.ptr I) .unit))), md := [0, 0, 0], mf := [], m := .unit, r := .bool, rf := .i, f := fun x => impl_order_lowerCovers_c1 x.1 x.2.1 x.2.2.1 }
def A_impl_order_lowerCovers_c1 : Cfg := mkCfg tab [(141, S_impl_order_covers)] []
theorem run_impl_order_lowerCovers_c1 (N : Nat) (x : (S_impl_order_lowerCovers_c1).a.den) : runF (A_impl_order_lowerCovers_c1) N Try.f155 S_impl_order_lowerCovers_c1 x = impl_order_lowerCovers_c1 x.1 x.2.1 x.2.2.1 := by kernel_rfl
theorem fn_impl_order_lowerCovers_c1 : FnOk Try.prog 155 := ⟨_, Try.func155, by kernel_rfl, by kernel_rfl⟩
theorem good_impl_order_lowerCovers_c1 : Gx.Good Try.prog 155 S_impl_order_lowerCovers_c1 := good_of_run Try.func155 (of_decide_eq_true (by kernel_rfl)) fun x r h => ⟨A_impl_order_lowerCovers_c1, big, mkCfg_ok tabOk, mkCfg_sigs (show SigsOk Try.prog [(141, S_impl_order_covers)] from ⟨⟨fn_impl_order_covers, good_impl_order_covers⟩, trivial⟩), (run_impl_order_lowerCovers_c1 big x).trans h⟩

/-! impl_order_those_k_order_lowerCovers_c1 -/
def impl_order_those_k_order_lowerCovers_c1_b3 (rec : ((List (List Bool)) × (Int × Unit)) → (List Int) → Int → Int → Option ((List Int) × Unit)) (k : (List Int) → Option ((List Int) × Unit)) (so1 : ((List (List Bool)) × (Int × Unit))) (list5 : (List Int)) (t9 : Int) (t10 : Int) : Option ((List Int) × Unit) :=
  cond (decide (t10 < t9))
  ((impl_order_lowerCovers_c1 t10 so1.1 so1.2.1).bind fun rq1 =>
  cond rq1.1
  ((appI list5 [t10]).bind fun xq2 =>
  rec so1 xq2 t9 (IntKind.i64.wrap (t10 + (1 : Int))))
  (rec so1 list5 t9 (IntKind.i64.wrap (t10 + (1 : Int)))))
  (k list5)
def impl_order_those_k_order_lowerCovers_c1_a3 (list5 : (List Int)) : Option ((List Int) × Unit) :=
  some (list5, (()))
def impl_order_those_k_order_lowerCovers_c1_s (L3 : ((List (List Bool)) × (Int × Unit)) → (List Int) → Int → Int → Option ((List Int) × Unit)) (o_0 : (List (List Bool))) (so_1 : ((List (List Bool)) × (Int × Unit))) : Option ((List Int) × Unit) :=
  L3 so_1 [] (o_0.length : Int) (0 : Int)
def impl_order_those_k_order_lowerCovers_c1_l3 (N : Nat) (k : (List Int) → Option ((List Int) × Unit)) : Nat → ((List (List Bool)) × (Int × Unit)) → (List Int) → Int → Int → Option ((List Int) × Unit)
  | 0, _, _, _, _ => none
  | m + 1, so1, list5, t9, t10 => impl_order_those_k_order_lowerCovers_c1_b3 (impl_order_those_k_order_lowerCovers_c1_l3 N k m) k so1 list5 t9 t10
def impl_order_those_k_order_lowerCovers_c1_F3 (N : Nat) (so1 : ((List (List Bool)) × (Int × Unit))) (list5 : (List Int)) (t9 : Int) (t10 : Int) : Option ((List Int) × Unit) := impl_order_those_k_order_lowerCovers_c1_l3 N (impl_order_those_k_order_lowerCovers_c1_a3) N so1 list5 t9 t10
def impl_order_those_k_order_lowerCovers_c1 (N : Nat) (o_0 : (List (List Bool))) (so_1 : ((List (List Bool)) × (Int × Unit))) : Option ((List Int) × Unit) := impl_order_those_k_order_lowerCovers_c1_s (impl_order_those_k_order_lowerCovers_c1_F3 N) o_0 so_1
def S_impl_order_those_k_order_lowerCovers_c1 : Sig := { a := (.pair (.sl (.sl .bool)) (.pair (.clo 155 0 (.pair (.ptr (.sl (.sl .bool))) (.pair (.ptr I) .unit))) .unit)), md := [0, 0], mf := [], m := .unit, r := (.sl I), rf := (.o .i), f := fun x => impl_order_those_k_order_lowerCovers_c1 big x.1 x.2.1 }
def A_impl_order_those_k_order_lowerCovers_c1 : Cfg := mkCfg tab [(155, S_impl_order_lowerCovers_c1)] [(6, [.drop, .as (.clo 155 0 (.pair (.ptr (.sl (.sl .bool))) (.pair (.ptr I) .unit))) .i, .drop, .drop, .drop, .as (.sl I) (.o .i), .drop, .drop, .drop, .as I .i, .as I .i]), (17, [.drop, .drop, .drop, .drop, .drop, .as (.sl I) (.o .i)])]
def impl_order_those_k_order_lowerCovers_c1_R3 (cd : Code) (N n : Nat) (K : Ex → St → Option ((List Int) × Unit)) (so1 : ((List (List Bool)) × (Int × Unit))) (list5 : (List Int)) (t9 : Int) (t10 : Int) : Option ((List Int) × Unit) := iter ((A_impl_order_those_k_order_lowerCovers_c1).shape 6) (run (A_impl_order_those_k_order_lowerCovers_c1) N cd) n ([.u, .val (.clo 155 0 (.pair (.ptr (.sl (.sl .bool))) (.pair (.ptr I) .unit))) .i so1, .u, .u, .u, .val (.sl I) (.o .i) list5, .u, .u, .u, .val I .i t9, .val I .i t10] ++ List.replicate 11 .u) K
theorem impl_order_those_k_order_lowerCovers_c1_step3 (N : Nat) (m : Nat) (kX : St → Option ((List Int) × Unit)) (kO : Nat → St → Option ((List Int) × Unit)) (so1 : ((List (List Bool)) × (Int × Unit))) (list5 : (List Int)) (t9 : Int) (t10 : Int) : impl_order_those_k_order_lowerCovers_c1_R3 (codeAt Try.f135 [1, 1, 0, 1, 0, 0]) N (m + 1) (exK (finish (A_impl_order_those_k_order_lowerCovers_c1) S_impl_order_those_k_order_lowerCovers_c1 Try.f135.results.toList) 0 ((A_impl_order_those_k_order_lowerCovers_c1).shape 17) kX kO) so1 list5 t9 t10 = impl_order_those_k_order_lowerCovers_c1_b3 (impl_order_those_k_order_lowerCovers_c1_R3 (codeAt Try.f135 [1, 1, 0, 1, 0, 0]) N m (exK (finish (A_impl_order_those_k_order_lowerCovers_c1) S_impl_order_those_k_order_lowerCovers_c1 Try.f135.results.toList) 0 ((A_impl_order_those_k_order_lowerCovers_c1).shape 17) kX kO)) (fun (list5 : (List Int)) => kX ([.u, .u, .u, .u, .u, .val (.sl I) (.o .i) list5] ++ List.replicate 16 .u)) so1 list5 t9 t10 := by kernel_rfl
theorem impl_order_those_k_order_lowerCovers_c1_iter3 (N : Nat) (kX : St → Option ((List Int) × Unit)) (kO : Nat → St → Option ((List Int) × Unit)) : ∀ (n : Nat) (so1 : ((List (List Bool)) × (Int × Unit))) (list5 : (List Int)) (t9 : Int) (t10 : Int), impl_order_those_k_order_lowerCovers_c1_R3 (codeAt Try.f135 [1, 1, 0, 1, 0, 0]) N n (exK (finish (A_impl_order_those_k_order_lowerCovers_c1) S_impl_order_those_k_order_lowerCovers_c1 Try.f135.results.toList) 0 ((A_impl_order_those_k_order_lowerCovers_c1).shape 17) kX kO) so1 list5 t9 t10 = impl_order_those_k_order_lowerCovers_c1_l3 N (fun (list5 : (List Int)) => kX ([.u, .u, .u, .u, .u, .val (.sl I) (.o .i) list5] ++ List.replicate 16 .u)) n so1 list5 t9 t10
  | 0, _, _, _, _ => rfl
  | m + 1, so1, list5, t9, t10 => by
    have hrec : impl_order_those_k_order_lowerCovers_c1_R3 (codeAt Try.f135 [1, 1, 0, 1, 0, 0]) N m (exK (finish (A_impl_order_those_k_order_lowerCovers_c1) S_impl_order_those_k_order_lowerCovers_c1 Try.f135.results.toList) 0 ((A_impl_order_those_k_order_lowerCovers_c1).shape 17) kX kO) = (impl_order_those_k_order_lowerCovers_c1_l3 N (fun (list5 : (List Int)) => kX ([.u, .u, .u, .u, .u, .val (.sl I) (.o .i) list5] ++ List.replicate 16 .u)) m) := (funext fun so1 => (funext fun list5 => (funext fun t9 => (funext fun t10 => impl_order_those_k_order_lowerCovers_c1_iter3 N kX kO m so1 list5 t9 t10))))
    refine (impl_order_those_k_order_lowerCovers_c1_step3 N m kX kO so1 list5 t9 t10).trans ?_
    rw [hrec]
    rfl
theorem impl_order_those_k_order_lowerCovers_c1_after3 (N : Nat) (list5 : (List Int)) : (fun st' => run (A_impl_order_those_k_order_lowerCovers_c1) N (codeAt Try.f135 [1, 1, 1]) st' (finish (A_impl_order_those_k_order_lowerCovers_c1) S_impl_order_those_k_order_lowerCovers_c1 Try.f135.results.toList)) ([.u, .u, .u, .u, .u, .val (.sl I) (.o .i) list5] ++ List.replicate 16 .u) = impl_order_those_k_order_lowerCovers_c1_a3 list5 := by kernel_rfl
theorem impl_order_those_k_order_lowerCovers_c1_in3 (N : Nat) (so1 : ((List (List Bool)) × (Int × Unit))) (list5 : (List Int)) (t9 : Int) (t10 : Int) : impl_order_those_k_order_lowerCovers_c1_R3 (codeAt Try.f135 [1, 1, 0, 1, 0, 0]) N N (blockK 0 (seqK ((A_impl_order_those_k_order_lowerCovers_c1).shape 17) (run (A_impl_order_those_k_order_lowerCovers_c1) N (codeAt Try.f135 [1, 1, 1])) (finish (A_impl_order_those_k_order_lowerCovers_c1) S_impl_order_those_k_order_lowerCovers_c1 Try.f135.results.toList))) so1 list5 t9 t10 = impl_order_those_k_order_lowerCovers_c1_F3 N so1 list5 t9 t10 :=
  have h : (fun (list5 : (List Int)) => (fun st' => run (A_impl_order_those_k_order_lowerCovers_c1) N (codeAt Try.f135 [1, 1, 1]) st' (finish (A_impl_order_those_k_order_lowerCovers_c1) S_impl_order_those_k_order_lowerCovers_c1 Try.f135.results.toList)) ([.u, .u, .u, .u, .u, .val (.sl I) (.o .i) list5] ++ List.replicate 16 .u)) = (impl_order_those_k_order_lowerCovers_c1_a3) := (funext fun list5 => impl_order_those_k_order_lowerCovers_c1_after3 N list5)
  have e : impl_order_those_k_order_lowerCovers_c1_R3 (codeAt Try.f135 [1, 1, 0, 1, 0, 0]) N N (blockK 0 (seqK ((A_impl_order_those_k_order_lowerCovers_c1).shape 17) (run (A_impl_order_those_k_order_lowerCovers_c1) N (codeAt Try.f135 [1, 1, 1])) (finish (A_impl_order_those_k_order_lowerCovers_c1) S_impl_order_those_k_order_lowerCovers_c1 Try.f135.results.toList))) so1 list5 t9 t10 = impl_order_those_k_order_lowerCovers_c1_R3 (codeAt Try.f135 [1, 1, 0, 1, 0, 0]) N N (exK (finish (A_impl_order_those_k_order_lowerCovers_c1) S_impl_order_those_k_order_lowerCovers_c1 Try.f135.results.toList) 0 ((A_impl_order_those_k_order_lowerCovers_c1).shape 17) (fun st' => run (A_impl_order_those_k_order_lowerCovers_c1) N (codeAt Try.f135 [1, 1, 1]) st' (finish (A_impl_order_those_k_order_lowerCovers_c1) S_impl_order_those_k_order_lowerCovers_c1 Try.f135.results.toList)) (fun j st => (blockK 0 (seqK ((A_impl_order_those_k_order_lowerCovers_c1).shape 17) (run (A_impl_order_those_k_order_lowerCovers_c1) N (codeAt Try.f135 [1, 1, 1])) (finish (A_impl_order_those_k_order_lowerCovers_c1) S_impl_order_those_k_order_lowerCovers_c1 Try.f135.results.toList))) (.exit j) st)) so1 list5 t9 t10 := iter_ex (fun st => by kernel_rfl) (fun st => by kernel_rfl)
  (e.trans (impl_order_those_k_order_lowerCovers_c1_iter3 N (fun st' => run (A_impl_order_those_k_order_lowerCovers_c1) N (codeAt Try.f135 [1, 1, 1]) st' (finish (A_impl_order_those_k_order_lowerCovers_c1) S_impl_order_those_k_order_lowerCovers_c1 Try.f135.results.toList)) (fun j st => (blockK 0 (seqK ((A_impl_order_those_k_order_lowerCovers_c1).shape 17) (run (A_impl_order_those_k_order_lowerCovers_c1) N (codeAt Try.f135 [1, 1, 1])) (finish (A_impl_order_those_k_order_lowerCovers_c1) S_impl_order_those_k_order_lowerCovers_c1 Try.f135.results.toList))) (.exit j) st) N so1 list5 t9 t10)).trans (congrArg (fun k => impl_order_those_k_order_lowerCovers_c1_l3 N k N so1 list5 t9 t10) h)
theorem run0_impl_order_those_k_order_lowerCovers_c1 (N : Nat) (x : (S_impl_order_those_k_order_lowerCovers_c1).a.den) : runF (A_impl_order_those_k_order_lowerCovers_c1) N Try.f135 S_impl_order_those_k_order_lowerCovers_c1 x = (impl_order_those_k_order_lowerCovers_c1_s (impl_order_those_k_order_lowerCovers_c1_R3 (codeAt Try.f135 [1, 1, 0, 1, 0, 0]) N N (blockK 0 (seqK ((A_impl_order_those_k_order_lowerCovers_c1).shape 17) (run (A_impl_order_those_k_order_lowerCovers_c1) N (codeAt Try.f135 [1, 1, 1])) (finish (A_impl_order_those_k_order_lowerCovers_c1) S_impl_order_those_k_order_lowerCovers_c1 Try.f135.results.toList)))) x.1 x.2.1) := by kernel_rfl
theorem run_impl_order_those_k_order_lowerCovers_c1 (N : Nat) (x : (S_impl_order_those_k_order_lowerCovers_c1).a.den) : runF (A_impl_order_those_k_order_lowerCovers_c1) N Try.f135 S_impl_order_those_k_order_lowerCovers_c1 x = impl_order_those_k_order_lowerCovers_c1 N x.1 x.2.1 := by
  refine (run0_impl_order_those_k_order_lowerCovers_c1 N x).trans ?_
  rw [(funext fun so1 => (funext fun list5 => (funext fun t9 => (funext fun t10 => impl_order_those_k_order_lowerCovers_c1_in3 N so1 list5 t9 t10))))]
  rfl
theorem fn_impl_order_those_k_order_lowerCovers_c1 : FnOk Try.prog 135 := ⟨_, Try.func135, by kernel_rfl, by kernel_rfl⟩
theorem good_impl_order_those_k_order_lowerCovers_c1 : Gx.Good Try.prog 135 S_impl_order_those_k_order_lowerCovers_c1 := good_of_run Try.func135 (of_decide_eq_true (by kernel_rfl)) fun x r h => ⟨A_impl_order_those_k_order_lowerCovers_c1, big, mkCfg_ok tabOk, mkCfg_sigs (show SigsOk Try.prog [(155, S_impl_order_lowerCovers_c1)] from ⟨⟨fn_impl_order_lowerCovers_c1, good_impl_order_lowerCovers_c1⟩, trivial⟩), (run_impl_order_those_k_order_lowerCovers_c1 big x).trans h⟩

/-! impl_order_lowerCovers -/
def impl_order_lowerCovers_s (o_0 : (List (List Bool))) (x_1 : Int) : Option ((List Int) × Unit) :=
  (impl_order_those_k_order_lowerCovers_c1 big o_0 (o_0, x_1, ())).bind fun rq1 =>
  some (rq1.1, (()))
def impl_order_lowerCovers (o_0 : (List (List Bool))) (x_1 : Int) : Option ((List Int) × Unit) := impl_order_lowerCovers_s o_0 x_1
def S_impl_order_lowerCovers : Sig := { a := (.pair (.sl (.sl .bool)) (.pair I .unit)), md := [0, 0], mf := [], m := .unit, r := (.sl I), rf := (.o .i), f := fun x => impl_order_lowerCovers x.1 x.2.1 }
def A_impl_order_lowerCovers : Cfg := mkCfg tab [(135, S_impl_order_those_k_order_lowerCovers_c1)] [(3, [.drop, .drop, .as (.ptr (.sl (.sl .bool))) .i, .as (.ptr I) .i])]
theorem run_impl_order_lowerCovers (N : Nat) (x : (S_impl_order_lowerCovers).a.den) : runF (A_impl_order_lowerCovers) N Try.f143 S_impl_order_lowerCovers x = impl_order_lowerCovers x.1 x.2.1 := by kernel_rfl
theorem fn_impl_order_lowerCovers : FnOk Try.prog 143 := ⟨_, Try.func143, by kernel_rfl, by kernel_rfl⟩
theorem good_impl_order_lowerCovers : Gx.Good Try.prog 143 S_impl_order_lowerCovers := good_of_run Try.func143 (of_decide_eq_true (by kernel_rfl)) fun x r h => ⟨A_impl_order_lowerCovers, big, mkCfg_ok tabOk, mkCfg_sigs (show SigsOk Try.prog [(135, S_impl_order_those_k_order_lowerCovers_c1)] from ⟨⟨fn_impl_order_those_k_order_lowerCovers_c1, good_impl_order_those_k_order_lowerCovers_c1⟩, trivial⟩), (run_impl_order_lowerCovers big x).trans h⟩

/-! impl_lattice_isIrreducible -/
def impl_lattice_isIrreducible_s (l_0 : (Option ((List (List Bool)) × ((List (List Int)) × ((List (List Int)) × Unit))))) (j_1 : Int) : Option (Bool × Unit) :=
  (l_0).bind fun xq1 =>
  (impl_order_has xq1.1 [j_1]).bind fun rq2 =>
  cond rq2.1
  ((l_0).bind fun xq3 =>
  (impl_order_lowerCovers xq3.1 j_1).bind fun rq4 =>
  some (decide ((rq4.1.length : Int) = (1 : Int)), (())))
  (some (false, (())))
def impl_lattice_isIrreducible (l_0 : (Option ((List (List Bool)) × ((List (List Int)) × ((List (List Int)) × Unit))))) (j_1 : Int) : Option (Bool × Unit) := impl_lattice_isIrreducible_s l_0 j_1
def S_impl_lattice_isIrreducible : Sig := { a := (.pair (.opt (.pair (.sl (.sl .bool)) (.pair (.sl (.sl I)) (.pair (.sl (.sl I)) .unit)))) (.pair I .unit)), md := [0, 0], mf := [], m := .unit, r := .bool, rf := .i, f := fun x => impl_lattice_isIrreducible x.1 x.2.1 }
def A_impl_lattice_isIrreducible : Cfg := mkCfg tab [(92, S_impl_order_has), (143, S_impl_order_lowerCovers)] []
theorem run_impl_lattice_isIrreducible (N : Nat) (x : (S_impl_lattice_isIrreducible).a.den) : runF (A_impl_lattice_isIrreducible) N Try.f104 S_impl_lattice_isIrreducible x = impl_lattice_isIrreducible x.1 x.2.1 := by kernel_rfl
theorem fn_impl_lattice_isIrreducible : FnOk Try.prog 104 := ⟨_, Try.func104, by kernel_rfl, by kernel_rfl⟩
theorem good_impl_lattice_isIrreducible : Gx.Good Try.prog 104 S_impl_lattice_isIrreducible := good_of_run Try.func104 (of_decide_eq_true (by kernel_rfl)) fun x r h => ⟨A_impl_lattice_isIrreducible, big, mkCfg_ok tabOk, mkCfg_sigs (show SigsOk Try.prog [(92, S_impl_order_has), (143, S_impl_order_lowerCovers)] from ⟨⟨fn_impl_order_has, good_impl_order_has⟩, ⟨fn_impl_order_lowerCovers, good_impl_order_lowerCovers⟩, trivial⟩), (run_impl_lattice_isIrreducible big x).trans h⟩

/-! impl_lattice_star -/
def impl_lattice_star_s (l_0 : (Option ((List (List Bool)) × ((List (List Int)) × ((List (List Int)) × Unit))))) (j_1 : Int) : Option (Int × Unit) :=
  (l_0).bind fun xq1 =>
  (impl_order_lowerCovers xq1.1 j_1).bind fun rq2 =>
  (atI rq2.1 (0 : Int)).bind fun _ =>
  (rq2.1[(0 : Int).toNat]?).bind fun xq3 =>
  some (xq3, (()))
def impl_lattice_star (l_0 : (Option ((List (List Bool)) × ((List (List Int)) × ((List (List Int)) × Unit))))) (j_1 : Int) : Option (Int × Unit) := impl_lattice_star_s l_0 j_1
def S_impl_lattice_star : Sig := { a := (.pair (.opt (.pair (.sl (.sl .bool)) (.pair (.sl (.sl I)) (.pair (.sl (.sl I)) .unit)))) (.pair I .unit)), md := [0, 0], mf := [], m := .unit, r := I, rf := .i, f := fun x => impl_lattice_star x.1 x.2.1 }
def A_impl_lattice_star : Cfg := mkCfg tab [(143, S_impl_order_lowerCovers)] []
theorem run_impl_lattice_star (N : Nat) (x : (S_impl_lattice_star).a.den) : runF (A_impl_lattice_star) N Try.f105 S_impl_lattice_star x = impl_lattice_star x.1 x.2.1 := by kernel_rfl
theorem fn_impl_lattice_star : FnOk Try.prog 105 := ⟨_, Try.func105, by kernel_rfl, by kernel_rfl⟩
theorem good_impl_lattice_star : Gx.Good Try.prog 105 S_impl_lattice_star := good_of_run Try.func105 (of_decide_eq_true (by kernel_rfl)) fun x r h => ⟨A_impl_lattice_star, big, mkCfg_ok tabOk, mkCfg_sigs (show SigsOk Try.prog [(143, S_impl_order_lowerCovers)] from ⟨⟨fn_impl_order_lowerCovers, good_impl_order_lowerCovers⟩, trivial⟩), (run_impl_lattice_star big x).trans h⟩

/-! impl_StarOf -/
def impl_StarOf_s (p_0 : ((List (List Int)) × Unit)) (j_1 : Int) : Option ((Int × (Bool × Unit)) × Unit) :=
  (impl_smallLattice p_0).bind fun rq1 =>
  cond (!rq1.1.2.1)
  (some (((0 : Int), false, ()), (())))
  ((impl_lattice_isIrreducible rq1.1.1 j_1).bind fun rq2 =>
  cond (!rq2.1)
  (some (((0 : Int), false, ()), (())))
  ((impl_lattice_star rq1.1.1 j_1).bind fun rq3 =>
  some ((rq3.1, true, ()), (()))))
def impl_StarOf (p_0 : ((List (List Int)) × Unit)) (j_1 : Int) : Option ((Int × (Bool × Unit)) × Unit) := impl_StarOf_s p_0 j_1
def S_impl_StarOf : Sig := { a := (.pair (.pair (.sl (.sl I)) .unit) (.pair I .unit)), md := [0, 0], mf := [], m := .unit, r := (.tup (.pair I (.pair .bool .unit))), rf := .i, f := fun x => impl_StarOf x.1 x.2.1 }
def A_impl_StarOf : Cfg := mkCfg tab [(99, S_impl_smallLattice), (104, S_impl_lattice_isIrreducible), (105, S_impl_lattice_star)] []
theorem run_impl_StarOf (N : Nat) (x : (S_impl_StarOf).a.den) : runF (A_impl_StarOf) N Try.f48 S_impl_StarOf x = impl_StarOf x.1 x.2.1 := by kernel_rfl
theorem fn_impl_StarOf : FnOk Try.prog 48 := ⟨_, Try.func48, by kernel_rfl, by kernel_rfl⟩
theorem good_impl_StarOf : Gx.Good Try.prog 48 S_impl_StarOf := good_of_run Try.func48 (of_decide_eq_true (by kernel_rfl)) fun x r h => ⟨A_impl_StarOf, big, mkCfg_ok tabOk, mkCfg_sigs (show SigsOk Try.prog [(99, S_impl_smallLattice), (104, S_impl_lattice_isIrreducible), (105, S_impl_lattice_star)] from ⟨⟨fn_impl_smallLattice, good_impl_smallLattice⟩, ⟨fn_impl_lattice_isIrreducible, good_impl_lattice_isIrreducible⟩, ⟨fn_impl_lattice_star, good_impl_lattice_star⟩, trivial⟩), (run_impl_StarOf big x).trans h⟩

/-! laws_FnExactStarOf -/
def laws_FnExactStarOf_s (aP_0 : ((List (List Int)) × Unit)) (aJ_1 : Int) : Option (Bool × Unit) :=
  (laws_szPoset aP_0 (1048576 : Int)).bind fun rq1 =>
  cond (decide (rq1.1 < (0 : Int)))
  (some (true, (())))
  ((laws_toPoset aP_0).bind fun rq2 =>
  (spec_StarOf rq2.1 aJ_1).bind fun rq3 =>
  (laws_toPoset aP_0).bind fun rq4 =>
  (impl_StarOf rq4.1 aJ_1).bind fun rq5 =>
  cond (decide (rq5.1.1 ≠ rq3.1.1))
  (some (false, (())))
  (cond (rq5.1.2.1 != rq3.1.2.1)
  (some (false, (())))
  ((laws_toPoset aP_0).bind fun rq6 =>
  (laws_eqPoset rq4.1 rq6.1).bind fun rq7 =>
  cond (!rq7.1)
  (some (false, (())))
  (some (true, (()))))))
def laws_FnExactStarOf (aP_0 : ((List (List Int)) × Unit)) (aJ_1 : Int) : Option (Bool × Unit) := laws_FnExactStarOf_s aP_0 aJ_1
def S_laws_FnExactStarOf : Sig := { a := (.pair (.pair (.sl (.sl I)) .unit) (.pair I .unit)), md := [0, 0], mf := [], m := .unit, r := .bool, rf := .i, f := fun x => laws_FnExactStarOf x.1 x.2.1 }
def A_laws_FnExactStarOf : Cfg := mkCfg tab [(39, S_laws_szPoset), (41, S_laws_toPoset), (47, S_spec_StarOf), (48, S_impl_StarOf), (21, S_laws_eqPoset)] []
theorem run_laws_FnExactStarOf (N : Nat) (x : (S_laws_FnExactStarOf).a.den) : runF (A_laws_FnExactStarOf) N Try.f11 S_laws_FnExactStarOf x = laws_FnExactStarOf x.1 x.2.1 := by kernel_rfl
theorem fn_laws_FnExactStarOf : FnOk Try.prog 11 := ⟨_, Try.func11, by kernel_rfl, by kernel_rfl⟩
theorem good_laws_FnExactStarOf : Gx.Good Try.prog 11 S_laws_FnExactStarOf := good_of_run Try.func11 (of_decide_eq_true (by kernel_rfl)) fun x r h => ⟨A_laws_FnExactStarOf, big, mkCfg_ok tabOk, mkCfg_sigs (show SigsOk Try.prog [(39, S_laws_szPoset), (41, S_laws_toPoset), (47, S_spec_StarOf), (48, S_impl_StarOf), (21, S_laws_eqPoset)] from ⟨⟨fn_laws_szPoset, good_laws_szPoset⟩, ⟨fn_laws_toPoset, good_laws_toPoset⟩, ⟨fn_spec_StarOf, good_spec_StarOf⟩, ⟨fn_impl_StarOf, good_impl_StarOf⟩, ⟨fn_laws_eqPoset, good_laws_eqPoset⟩, trivial⟩), (run_laws_FnExactStarOf big x).trans h⟩

/-! spec_l28End -/
def spec_l28End_b3 (rec : (List Int) → Int → Int → Option (Int × Unit)) (k : Option (Int × Unit)) (w0 : (List Int)) (open5 : Int) (i6 : Int) : Option (Int × Unit) :=
  cond (decide (i6 < (w0.length : Int)))
  ((atI w0 i6).bind fun xq1 =>
  cond (decide (xq1 = (-1 : Int)))
  (cond (decide ((IntKind.i64.wrap (open5 + (1 : Int))) = (0 : Int)))
  (some (IntKind.i64.wrap (i6 + (1 : Int)), (())))
  (rec w0 (IntKind.i64.wrap (open5 + (1 : Int))) (IntKind.i64.wrap (i6 + (1 : Int)))))
  ((atI w0 i6).bind fun xq2 =>
  cond (decide (xq2 = (-2 : Int)))
  (cond (decide ((IntKind.i64.wrap (open5 + (1 : Int))) = (0 : Int)))
  (some (IntKind.i64.wrap (i6 + (1 : Int)), (())))
  (rec w0 (IntKind.i64.wrap (open5 + (1 : Int))) (IntKind.i64.wrap (i6 + (1 : Int)))))
  ((atI w0 i6).bind fun xq3 =>
  (spec_l1In xq3 (0 : Int) (4 : Int)).bind fun rq4 =>
  cond rq4.1
  (cond (decide ((IntKind.i64.wrap (open5 - (1 : Int))) = (0 : Int)))
  (some (IntKind.i64.wrap (i6 + (1 : Int)), (())))
  (rec w0 (IntKind.i64.wrap (open5 - (1 : Int))) (IntKind.i64.wrap (i6 + (1 : Int)))))
  (some ((-1 : Int), (()))))))
  (k)
def spec_l28End_a3 : Option (Int × Unit) :=
  some ((-1 : Int), (()))
def spec_l28End_s (L3 : (List Int) → Int → Int → Option (Int × Unit)) (w_0 : (List Int)) (from_1 : Int) : Option (Int × Unit) :=
  L3 w_0 (1 : Int) from_1
def spec_l28End_l3 (N : Nat) (k : Option (Int × Unit)) : Nat → (List Int) → Int → Int → Option (Int × Unit)
  | 0, _, _, _ => none
  | m + 1, w0, open5, i6 => spec_l28End_b3 (spec_l28End_l3 N k m) k w0 open5 i6
def spec_l28End_F3 (N : Nat) (w0 : (List Int)) (open5 : Int) (i6 : Int) : Option (Int × Unit) := spec_l28End_l3 N (spec_l28End_a3) N w0 open5 i6
def spec_l28End (N : Nat) (w_0 : (List Int)) (from_1 : Int) : Option (Int × Unit) := spec_l28End_s (spec_l28End_F3 N) w_0 from_1
def S_spec_l28End : Sig := { a := (.pair (.sl I) (.pair I .unit)), md := [0, 0], mf := [], m := .unit, r := I, rf := .i, f := fun x => spec_l28End big x.1 x.2.1 }
def A_spec_l28End : Cfg := mkCfg tab [(59, S_spec_l1In)] [(6, [.as (.sl I) .i, .drop, .drop, .drop, .drop, .as I .i, .as I .i]), (25, [])]
def spec_l28End_R3 (cd : Code) (N n : Nat) (K : Ex → St → Option (Int × Unit)) (w0 : (List Int)) (open5 : Int) (i6 : Int) : Option (Int × Unit) := iter ((A_spec_l28End).shape 6) (run (A_spec_l28End) N cd) n ([.val (.sl I) .i w0, .u, .u, .u, .u, .val I .i open5, .val I .i i6] ++ List.replicate 34 .u) K
theorem spec_l28End_step3 (N : Nat) (m : Nat) (kX : St → Option (Int × Unit)) (kO : Nat → St → Option (Int × Unit)) (w0 : (List Int)) (open5 : Int) (i6 : Int) : spec_l28End_R3 (codeAt Try.f115 [1, 1, 0, 1, 0, 0]) N (m + 1) (exK (finish (A_spec_l28End) S_spec_l28End Try.f115.results.toList) 0 ((A_spec_l28End).shape 25) kX kO) w0 open5 i6 = spec_l28End_b3 (spec_l28End_R3 (codeAt Try.f115 [1, 1, 0, 1, 0, 0]) N m (exK (finish (A_spec_l28End) S_spec_l28End Try.f115.results.toList) 0 ((A_spec_l28End).shape 25) kX kO)) (kX ([] ++ List.replicate 41 .u)) w0 open5 i6 := by kernel_rfl
theorem spec_l28End_iter3 (N : Nat) (kX : St → Option (Int × Unit)) (kO : Nat → St → Option (Int × Unit)) : ∀ (n : Nat) (w0 : (List Int)) (open5 : Int) (i6 : Int), spec_l28End_R3 (codeAt Try.f115 [1, 1, 0, 1, 0, 0]) N n (exK (finish (A_spec_l28End) S_spec_l28End Try.f115.results.toList) 0 ((A_spec_l28End).shape 25) kX kO) w0 open5 i6 = spec_l28End_l3 N (kX ([] ++ List.replicate 41 .u)) n w0 open5 i6
  | 0, _, _, _ => rfl
  | m + 1, w0, open5, i6 => by
    have hrec : spec_l28End_R3 (codeAt Try.f115 [1, 1, 0, 1, 0, 0]) N m (exK (finish (A_spec_l28End) S_spec_l28End Try.f115.results.toList) 0 ((A_spec_l28End).shape 25) kX kO) = (spec_l28End_l3 N (kX ([] ++ List.replicate 41 .u)) m) := (funext fun w0 => (funext fun open5 => (funext fun i6 => spec_l28End_iter3 N kX kO m w0 open5 i6)))
    refine (spec_l28End_step3 N m kX kO w0 open5 i6).trans ?_
    rw [hrec]
    rfl
theorem spec_l28End_after3 (N : Nat) : (fun st' => run (A_spec_l28End) N (codeAt Try.f115 [1, 1, 1]) st' (finish (A_spec_l28End) S_spec_l28End Try.f115.results.toList)) ([] ++ List.replicate 41 .u) = spec_l28End_a3 := by kernel_rfl
theorem spec_l28End_in3 (N : Nat) (w0 : (List Int)) (open5 : Int) (i6 : Int) : spec_l28End_R3 (codeAt Try.f115 [1, 1, 0, 1, 0, 0]) N N (blockK 0 (seqK ((A_spec_l28End).shape 25) (run (A_spec_l28End) N (codeAt Try.f115 [1, 1, 1])) (finish (A_spec_l28End) S_spec_l28End Try.f115.results.toList))) w0 open5 i6 = spec_l28End_F3 N w0 open5 i6 :=
  have h : ((fun st' => run (A_spec_l28End) N (codeAt Try.f115 [1, 1, 1]) st' (finish (A_spec_l28End) S_spec_l28End Try.f115.results.toList)) ([] ++ List.replicate 41 .u)) = (spec_l28End_a3) := spec_l28End_after3 N
  have e : spec_l28End_R3 (codeAt Try.f115 [1, 1, 0, 1, 0, 0]) N N (blockK 0 (seqK ((A_spec_l28End).shape 25) (run (A_spec_l28End) N (codeAt Try.f115 [1, 1, 1])) (finish (A_spec_l28End) S_spec_l28End Try.f115.results.toList))) w0 open5 i6 = spec_l28End_R3 (codeAt Try.f115 [1, 1, 0, 1, 0, 0]) N N (exK (finish (A_spec_l28End) S_spec_l28End Try.f115.results.toList) 0 ((A_spec_l28End).shape 25) (fun st' => run (A_spec_l28End) N (codeAt Try.f115 [1, 1, 1]) st' (finish (A_spec_l28End) S_spec_l28End Try.f115.results.toList)) (fun j st => (blockK 0 (seqK ((A_spec_l28End).shape 25) (run (A_spec_l28End) N (codeAt Try.f115 [1, 1, 1])) (finish (A_spec_l28End) S_spec_l28End Try.f115.results.toList))) (.exit j) st)) w0 open5 i6 := iter_ex (fun st => by kernel_rfl) (fun st => by kernel_rfl)
  (e.trans (spec_l28End_iter3 N (fun st' => run (A_spec_l28End) N (codeAt Try.f115 [1, 1, 1]) st' (finish (A_spec_l28End) S_spec_l28End Try.f115.results.toList)) (fun j st => (blockK 0 (seqK ((A_spec_l28End).shape 25) (run (A_spec_l28End) N (codeAt Try.f115 [1, 1, 1])) (finish (A_spec_l28End) S_spec_l28End Try.f115.results.toList))) (.exit j) st) N w0 open5 i6)).trans (congrArg (fun k => spec_l28End_l3 N k N w0 open5 i6) h)
theorem run0_spec_l28End (N : Nat) (x : (S_spec_l28End).a.den) : runF (A_spec_l28End) N Try.f115 S_spec_l28End x = (spec_l28End_s (spec_l28End_R3 (codeAt Try.f115 [1, 1, 0, 1, 0, 0]) N N (blockK 0 (seqK ((A_spec_l28End).shape 25) (run (A_spec_l28End) N (codeAt Try.f115 [1, 1, 1])) (finish (A_spec_l28End) S_spec_l28End Try.f115.results.toList)))) x.1 x.2.1) := by kernel_rfl
theorem run_spec_l28End (N : Nat) (x : (S_spec_l28End).a.den) : runF (A_spec_l28End) N Try.f115 S_spec_l28End x = spec_l28End N x.1 x.2.1 := by
  refine (run0_spec_l28End N x).trans ?_
  rw [(funext fun w0 => (funext fun open5 => (funext fun i6 => spec_l28End_in3 N w0 open5 i6)))]
  rfl
theorem fn_spec_l28End : FnOk Try.prog 115 := ⟨_, Try.func115, by kernel_rfl, by kernel_rfl⟩
theorem good_spec_l28End : Gx.Good Try.prog 115 S_spec_l28End := good_of_run Try.func115 (of_decide_eq_true (by kernel_rfl)) fun x r h => ⟨A_spec_l28End, big, mkCfg_ok tabOk, mkCfg_sigs (show SigsOk Try.prog [(59, S_spec_l1In)] from ⟨⟨fn_spec_l1In, good_spec_l1In⟩, trivial⟩), (run_spec_l28End big x).trans h⟩

/-! spec_l28Good -/
def spec_l28Good_s (w_0 : (List Int)) : Option (Bool × Unit) :=
  cond (decide ((w_0.length : Int) ≤ (40 : Int)))
  ((spec_l28End big w_0 (0 : Int)).bind fun rq1 =>
  cond (decide (rq1.1 = (w_0.length : Int)))
  (some (decide ((0 : Int) < (w_0.length : Int)), (())))
  (some (false, (()))))
  (some (false, (())))
def spec_l28Good (w_0 : (List Int)) : Option (Bool × Unit) := spec_l28Good_s w_0
def S_spec_l28Good : Sig := { a := (.pair (.sl I) .unit), md := [0], mf := [], m := .unit, r := .bool, rf := .i, f := fun x => spec_l28Good x.1 }
def A_spec_l28Good : Cfg := mkCfg tab [(115, S_spec_l28End)] []
theorem run_spec_l28Good (N : Nat) (x : (S_spec_l28Good).a.den) : runF (A_spec_l28Good) N Try.f55 S_spec_l28Good x = spec_l28Good x.1 := by kernel_rfl
theorem fn_spec_l28Good : FnOk Try.prog 55 := ⟨_, Try.func55, by kernel_rfl, by kernel_rfl⟩
theorem good_spec_l28Good : Gx.Good Try.prog 55 S_spec_l28Good := good_of_run Try.func55 (of_decide_eq_true (by kernel_rfl)) fun x r h => ⟨A_spec_l28Good, big, mkCfg_ok tabOk, mkCfg_sigs (show SigsOk Try.prog [(115, S_spec_l28End)] from ⟨⟨fn_spec_l28End, good_spec_l28End⟩, trivial⟩), (run_spec_l28Good big x).trans h⟩

/-! spec_l28Parts -/
def spec_l28Parts_s (w_0 : (List Int)) : Option (((List Int) × ((List Int) × Unit)) × Unit) :=
  (spec_l28End big w_0 (1 : Int)).bind fun rq1 =>
  (slI w_0 (1 : Int) rq1.1).bind fun xq2 =>
  (slI w_0 rq1.1 w_0.length).bind fun xq3 =>
  some ((xq2, xq3, ()), (()))
def spec_l28Parts (w_0 : (List Int)) : Option (((List Int) × ((List Int) × Unit)) × Unit) := spec_l28Parts_s w_0
def S_spec_l28Parts : Sig := { a := (.pair (.sl I) .unit), md := [0], mf := [], m := .unit, r := (.tup (.pair (.sl I) (.pair (.sl I) .unit))), rf := .i, f := fun x => spec_l28Parts x.1 }
def A_spec_l28Parts : Cfg := mkCfg tab [(115, S_spec_l28End)] []
theorem run_spec_l28Parts (N : Nat) (x : (S_spec_l28Parts).a.den) : runF (A_spec_l28Parts) N Try.f116 S_spec_l28Parts x = spec_l28Parts x.1 := by kernel_rfl
theorem fn_spec_l28Parts : FnOk Try.prog 116 := ⟨_, Try.func116, by kernel_rfl, by kernel_rfl⟩
theorem good_spec_l28Parts : Gx.Good Try.prog 116 S_spec_l28Parts := good_of_run Try.func116 (of_decide_eq_true (by kernel_rfl)) fun x r h => ⟨A_spec_l28Parts, big, mkCfg_ok tabOk, mkCfg_sigs (show SigsOk Try.prog [(115, S_spec_l28End)] from ⟨⟨fn_spec_l28End, good_spec_l28End⟩, trivial⟩), (run_spec_l28Parts big x).trans h⟩

/-! types of spec_l28Value -/
def T_spec_l28Value (self : (((List (List Int)) × Unit) × ((List Int) × ((List Int) × Unit))) → Option (Int × Unit)) : Sig := { a := (.pair (.pair (.sl (.sl I)) .unit) (.pair (.sl I) (.pair (.sl I) .unit))), md := [0, 0, 0], mf := [], m := .unit, r := I, rf := .i, f := self }

/-! spec_l28Value -/
def spec_l28Value_s (self_spec_l28Value : (((List (List Int)) × Unit) × ((List Int) × ((List Int) × Unit))) → Option (Int × Unit)) (p_0 : ((List (List Int)) × Unit)) (w_1 : (List Int)) (elements_2 : (List Int)) : Option (Int × Unit) :=
  (atI w_1 (0 : Int)).bind fun xq1 =>
  cond (decide ((0 : Int) ≤ xq1))
  ((atI w_1 (0 : Int)).bind fun xq2 =>
  (atI elements_2 xq2).bind fun xq3 =>
  some (xq3, (())))
  ((spec_l28Parts w_1).bind fun rq4 =>
  (self_spec_l28Value (p_0, rq4.1.1, elements_2, ())).bind fun rq5 =>
  (self_spec_l28Value (p_0, rq4.1.2.1, elements_2, ())).bind fun rq6 =>
  (atI w_1 (0 : Int)).bind fun xq7 =>
  cond (decide (xq7 = (-1 : Int)))
  ((spec_l24Meet p_0 rq5.1 rq6.1).bind fun rq8 =>
  some (rq8.1, (())))
  ((spec_l24Join p_0 rq5.1 rq6.1).bind fun rq9 =>
  some (rq9.1, (()))))
def spec_l28Value (self_spec_l28Value : (((List (List Int)) × Unit) × ((List Int) × ((List Int) × Unit))) → Option (Int × Unit)) (p_0 : ((List (List Int)) × Unit)) (w_1 : (List Int)) (elements_2 : (List Int)) : Option (Int × Unit) := spec_l28Value_s self_spec_l28Value p_0 w_1 elements_2
def A_spec_l28Value (self_spec_l28Value : (((List (List Int)) × Unit) × ((List Int) × ((List Int) × Unit))) → Option (Int × Unit)) : Cfg := mkCfg tab [(116, S_spec_l28Parts), (110, T_spec_l28Value self_spec_l28Value), (132, S_spec_l24Meet), (140, S_spec_l24Join)] []
theorem run_spec_l28Value (self_spec_l28Value : (((List (List Int)) × Unit) × ((List Int) × ((List Int) × Unit))) → Option (Int × Unit)) (N : Nat) (x : ((T_spec_l28Value self_spec_l28Value)).a.den) : runF (A_spec_l28Value self_spec_l28Value) N Try.f110 (T_spec_l28Value self_spec_l28Value) x = spec_l28Value self_spec_l28Value x.1 x.2.1 x.2.2.1 := by kernel_rfl
theorem fn_spec_l28Value : FnOk Try.prog 110 := ⟨_, Try.func110, by kernel_rfl, by kernel_rfl⟩

/-! recursion -/
def R_spec_l28Value : Nat → (((List (List Int)) × Unit) × ((List Int) × ((List Int) × Unit))) → Option (Int × Unit)
  | 0, _ => none
  | d + 1, x => spec_l28Value (R_spec_l28Value d) x.1 x.2.1 x.2.2.1
def S_spec_l28Value : Sig := T_spec_l28Value (R_spec_l28Value big)
theorem goodR_spec_l28Value : ∀ d, Gx.Good Try.prog 110 (T_spec_l28Value (R_spec_l28Value d))
  | 0 => fun x r h => by cases h
  | d + 1 => good_of_run Try.func110 (of_decide_eq_true (by kernel_rfl)) fun x r h => ⟨A_spec_l28Value (R_spec_l28Value d), big, mkCfg_ok tabOk, mkCfg_sigs (show SigsOk Try.prog [(116, S_spec_l28Parts), (110, T_spec_l28Value (R_spec_l28Value d)), (132, S_spec_l24Meet), (140, S_spec_l24Join)] from ⟨⟨fn_spec_l28Parts, good_spec_l28Parts⟩, ⟨fn_spec_l28Value, goodR_spec_l28Value d⟩, ⟨fn_spec_l24Meet, good_spec_l24Meet⟩, ⟨fn_spec_l24Join, good_spec_l24Join⟩, trivial⟩), (run_spec_l28Value (R_spec_l28Value d) big x).trans h⟩
theorem good_spec_l28Value : Gx.Good Try.prog 110 S_spec_l28Value := goodR_spec_l28Value big

/-! spec_WordValue -/
def spec_WordValue_s (p_0 : ((List (List Int)) × Unit)) (w_1 : (List Int)) (elements_2 : (List Int)) : Option ((Int × (Bool × Unit)) × Unit) :=
  (spec_l28Good w_1).bind fun rq1 =>
  cond (!rq1.1)
  (some (((0 : Int), false, ()), (())))
  ((spec_l24Good big p_0).bind fun rq2 =>
  cond (!rq2.1)
  (some (((0 : Int), false, ()), (())))
  (cond (decide ((elements_2.length : Int) ≠ (5 : Int)))
  (some (((0 : Int), false, ()), (())))
  ((spec_l2Elements big (p_0.1.length : Int) elements_2).bind fun rq3 =>
  cond (!rq3.1)
  (some (((0 : Int), false, ()), (())))
  ((R_spec_l28Value big (p_0, w_1, elements_2, ())).bind fun rq4 =>
  some ((rq4.1, true, ()), (()))))))
def spec_WordValue (p_0 : ((List (List Int)) × Unit)) (w_1 : (List Int)) (elements_2 : (List Int)) : Option ((Int × (Bool × Unit)) × Unit) := spec_WordValue_s p_0 w_1 elements_2
def S_spec_WordValue : Sig := { a := (.pair (.pair (.sl (.sl I)) .unit) (.pair (.sl I) (.pair (.sl I) .unit))), md := [0, 0, 0], mf := [], m := .unit, r := (.tup (.pair I (.pair .bool .unit))), rf := .i, f := fun x => spec_WordValue x.1 x.2.1 x.2.2.1 }
def A_spec_WordValue : Cfg := mkCfg tab [(55, S_spec_l28Good), (89, S_spec_l24Good), (109, S_spec_l2Elements), (110, S_spec_l28Value)] []
theorem run_spec_WordValue (N : Nat) (x : (S_spec_WordValue).a.den) : runF (A_spec_WordValue) N Try.f51 S_spec_WordValue x = spec_WordValue x.1 x.2.1 x.2.2.1 := by kernel_rfl
theorem fn_spec_WordValue : FnOk Try.prog 51 := ⟨_, Try.func51, by kernel_rfl, by kernel_rfl⟩
theorem good_spec_WordValue : Gx.Good Try.prog 51 S_spec_WordValue := good_of_run Try.func51 (of_decide_eq_true (by kernel_rfl)) fun x r h => ⟨A_spec_WordValue, big, mkCfg_ok tabOk, mkCfg_sigs (show SigsOk Try.prog [(55, S_spec_l28Good), (89, S_spec_l24Good), (109, S_spec_l2Elements), (110, S_spec_l28Value)] from ⟨⟨fn_spec_l28Good, good_spec_l28Good⟩, ⟨fn_spec_l24Good, good_spec_l24Good⟩, ⟨fn_spec_l2Elements, good_spec_l2Elements⟩, ⟨fn_spec_l28Value, good_spec_l28Value⟩, trivial⟩), (run_spec_WordValue big x).trans h⟩

/-! impl_wordEnd -/
def impl_wordEnd_b2 (rec : (List Int) → Int → Int → Option (Int × Unit)) (k : Int → Option (Int × Unit)) (w0 : (List Int)) (at1 : Int) (need5 : Int) : Option (Int × Unit) :=
  cond (decide ((0 : Int) < need5))
  (cond (decide ((w0.length : Int) ≤ at1))
  (some ((-1 : Int), (())))
  ((atI w0 at1).bind fun xq1 =>
  cond (decide (xq1 < (-2 : Int)))
  (some ((-1 : Int), (())))
  ((atI w0 at1).bind fun xq2 =>
  cond (decide ((5 : Int) ≤ xq2))
  (some ((-1 : Int), (())))
  ((atI w0 at1).bind fun xq3 =>
  cond (decide ((0 : Int) ≤ xq3))
  (rec w0 (IntKind.i64.wrap (at1 + (1 : Int))) (IntKind.i64.wrap (need5 - (1 : Int))))
  (rec w0 (IntKind.i64.wrap (at1 + (1 : Int))) (IntKind.i64.wrap (need5 + (1 : Int))))))))
  (k at1)
def impl_wordEnd_a2 (at1 : Int) : Option (Int × Unit) :=
  some (at1, (()))
def impl_wordEnd_s (L2 : (List Int) → Int → Int → Option (Int × Unit)) (w_0 : (List Int)) (at_1 : Int) : Option (Int × Unit) :=
  L2 w_0 at_1 (1 : Int)
def impl_wordEnd_l2 (N : Nat) (k : Int → Option (Int × Unit)) : Nat → (List Int) → Int → Int → Option (Int × Unit)
  | 0, _, _, _ => none
  | m + 1, w0, at1, need5 => impl_wordEnd_b2 (impl_wordEnd_l2 N k m) k w0 at1 need5
def impl_wordEnd_F2 (N : Nat) (w0 : (List Int)) (at1 : Int) (need5 : Int) : Option (Int × Unit) := impl_wordEnd_l2 N (impl_wordEnd_a2) N w0 at1 need5
def impl_wordEnd (N : Nat) (w_0 : (List Int)) (at_1 : Int) : Option (Int × Unit) := impl_wordEnd_s (impl_wordEnd_F2 N) w_0 at_1
def S_impl_wordEnd : Sig := { a := (.pair (.sl I) (.pair I .unit)), md := [0, 0], mf := [], m := .unit, r := I, rf := .i, f := fun x => impl_wordEnd big x.1 x.2.1 }
def A_impl_wordEnd : Cfg := mkCfg tab [] [(4, [.as (.sl I) .i, .as I .i, .drop, .drop, .drop, .as I .i]), (19, [.drop, .as I .i])]
def impl_wordEnd_R2 (cd : Code) (N n : Nat) (K : Ex → St → Option (Int × Unit)) (w0 : (List Int)) (at1 : Int) (need5 : Int) : Option (Int × Unit) := iter ((A_impl_wordEnd).shape 4) (run (A_impl_wordEnd) N cd) n ([.val (.sl I) .i w0, .val I .i at1, .u, .u, .u, .val I .i need5] ++ List.replicate 32 .u) K
theorem impl_wordEnd_step2 (N : Nat) (m : Nat) (kX : St → Option (Int × Unit)) (kO : Nat → St → Option (Int × Unit)) (w0 : (List Int)) (at1 : Int) (need5 : Int) : impl_wordEnd_R2 (codeAt Try.f117 [1, 0, 1, 0, 0]) N (m + 1) (exK (finish (A_impl_wordEnd) S_impl_wordEnd Try.f117.results.toList) 0 ((A_impl_wordEnd).shape 19) kX kO) w0 at1 need5 = impl_wordEnd_b2 (impl_wordEnd_R2 (codeAt Try.f117 [1, 0, 1, 0, 0]) N m (exK (finish (A_impl_wordEnd) S_impl_wordEnd Try.f117.results.toList) 0 ((A_impl_wordEnd).shape 19) kX kO)) (fun (at1 : Int) => kX ([.u, .val I .i at1] ++ List.replicate 36 .u)) w0 at1 need5 := by kernel_rfl
theorem impl_wordEnd_iter2 (N : Nat) (kX : St → Option (Int × Unit)) (kO : Nat → St → Option (Int × Unit)) : ∀ (n : Nat) (w0 : (List Int)) (at1 : Int) (need5 : Int), impl_wordEnd_R2 (codeAt Try.f117 [1, 0, 1, 0, 0]) N n (exK (finish (A_impl_wordEnd) S_impl_wordEnd Try.f117.results.toList) 0 ((A_impl_wordEnd).shape 19) kX kO) w0 at1 need5 = impl_wordEnd_l2 N (fun (at1 : Int) => kX ([.u, .val I .i at1] ++ List.replicate 36 .u)) n w0 at1 need5
  | 0, _, _, _ => rfl
  | m + 1, w0, at1, need5 => by
    have hrec : impl_wordEnd_R2 (codeAt Try.f117 [1, 0, 1, 0, 0]) N m (exK (finish (A_impl_wordEnd) S_impl_wordEnd Try.f117.results.toList) 0 ((A_impl_wordEnd).shape 19) kX kO) = (impl_wordEnd_l2 N (fun (at1 : Int) => kX ([.u, .val I .i at1] ++ List.replicate 36 .u)) m) := (funext fun w0 => (funext fun at1 => (funext fun need5 => impl_wordEnd_iter2 N kX kO m w0 at1 need5)))
    refine (impl_wordEnd_step2 N m kX kO w0 at1 need5).trans ?_
    rw [hrec]
    rfl
theorem impl_wordEnd_after2 (N : Nat) (at1 : Int) : (fun st' => run (A_impl_wordEnd) N (codeAt Try.f117 [1, 1]) st' (finish (A_impl_wordEnd) S_impl_wordEnd Try.f117.results.toList)) ([.u, .val I .i at1] ++ List.replicate 36 .u) = impl_wordEnd_a2 at1 := by kernel_rfl
theorem impl_wordEnd_in2 (N : Nat) (w0 : (List Int)) (at1 : Int) (need5 : Int) : impl_wordEnd_R2 (codeAt Try.f117 [1, 0, 1, 0, 0]) N N (blockK 0 (seqK ((A_impl_wordEnd).shape 19) (run (A_impl_wordEnd) N (codeAt Try.f117 [1, 1])) (finish (A_impl_wordEnd) S_impl_wordEnd Try.f117.results.toList))) w0 at1 need5 = impl_wordEnd_F2 N w0 at1 need5 :=
  have h : (fun (at1 : Int) => (fun st' => run (A_impl_wordEnd) N (codeAt Try.f117 [1, 1]) st' (finish (A_impl_wordEnd) S_impl_wordEnd Try.f117.results.toList)) ([.u, .val I .i at1] ++ List.replicate 36 .u)) = (impl_wordEnd_a2) := (funext fun at1 => impl_wordEnd_after2 N at1)
  have e : impl_wordEnd_R2 (codeAt Try.f117 [1, 0, 1, 0, 0]) N N (blockK 0 (seqK ((A_impl_wordEnd).shape 19) (run (A_impl_wordEnd) N (codeAt Try.f117 [1, 1])) (finish (A_impl_wordEnd) S_impl_wordEnd Try.f117.results.toList))) w0 at1 need5 = impl_wordEnd_R2 (codeAt Try.f117 [1, 0, 1, 0, 0]) N N (exK (finish (A_impl_wordEnd) S_impl_wordEnd Try.f117.results.toList) 0 ((A_impl_wordEnd).shape 19) (fun st' => run (A_impl_wordEnd) N (codeAt Try.f117 [1, 1]) st' (finish (A_impl_wordEnd) S_impl_wordEnd Try.f117.results.toList)) (fun j st => (blockK 0 (seqK ((A_impl_wordEnd).shape 19) (run (A_impl_wordEnd) N (codeAt Try.f117 [1, 1])) (finish (A_impl_wordEnd) S_impl_wordEnd Try.f117.results.toList))) (.exit j) st)) w0 at1 need5 := iter_ex (fun st => by kernel_rfl) (fun st => by kernel_rfl)
  (e.trans (impl_wordEnd_iter2 N (fun st' => run (A_impl_wordEnd) N (codeAt Try.f117 [1, 1]) st' (finish (A_impl_wordEnd) S_impl_wordEnd Try.f117.results.toList)) (fun j st => (blockK 0 (seqK ((A_impl_wordEnd).shape 19) (run (A_impl_wordEnd) N (codeAt Try.f117 [1, 1])) (finish (A_impl_wordEnd) S_impl_wordEnd Try.f117.results.toList))) (.exit j) st) N w0 at1 need5)).trans (congrArg (fun k => impl_wordEnd_l2 N k N w0 at1 need5) h)
theorem run0_impl_wordEnd (N : Nat) (x : (S_impl_wordEnd).a.den) : runF (A_impl_wordEnd) N Try.f117 S_impl_wordEnd x = (impl_wordEnd_s (impl_wordEnd_R2 (codeAt Try.f117 [1, 0, 1, 0, 0]) N N (blockK 0 (seqK ((A_impl_wordEnd).shape 19) (run (A_impl_wordEnd) N (codeAt Try.f117 [1, 1])) (finish (A_impl_wordEnd) S_impl_wordEnd Try.f117.results.toList)))) x.1 x.2.1) := by kernel_rfl
theorem run_impl_wordEnd (N : Nat) (x : (S_impl_wordEnd).a.den) : runF (A_impl_wordEnd) N Try.f117 S_impl_wordEnd x = impl_wordEnd N x.1 x.2.1 := by
  refine (run0_impl_wordEnd N x).trans ?_
  rw [(funext fun w0 => (funext fun at1 => (funext fun need5 => impl_wordEnd_in2 N w0 at1 need5)))]
  rfl
theorem fn_impl_wordEnd : FnOk Try.prog 117 := ⟨_, Try.func117, by kernel_rfl, by kernel_rfl⟩
theorem good_impl_wordEnd : Gx.Good Try.prog 117 S_impl_wordEnd := good_of_run Try.func117 (of_decide_eq_true (by kernel_rfl)) fun x r h => ⟨A_impl_wordEnd, big, mkCfg_ok tabOk, mkCfg_sigs (show SigsOk Try.prog [] from trivial), (run_impl_wordEnd big x).trans h⟩

/-! impl_IsWord -/
def impl_IsWord_s (w_0 : (List Int)) : Option (Bool × Unit) :=
  cond (decide ((w_0.length : Int) ≤ (40 : Int)))
  ((impl_wordEnd big w_0 (0 : Int)).bind fun rq1 =>
  some (decide (rq1.1 = (w_0.length : Int)), (())))
  (some (false, (())))
def impl_IsWord (w_0 : (List Int)) : Option (Bool × Unit) := impl_IsWord_s w_0
def S_impl_IsWord : Sig := { a := (.pair (.sl I) .unit), md := [0], mf := [], m := .unit, r := .bool, rf := .i, f := fun x => impl_IsWord x.1 }
def A_impl_IsWord : Cfg := mkCfg tab [(117, S_impl_wordEnd)] []
theorem run_impl_IsWord (N : Nat) (x : (S_impl_IsWord).a.den) : runF (A_impl_IsWord) N Try.f57 S_impl_IsWord x = impl_IsWord x.1 := by kernel_rfl
theorem fn_impl_IsWord : FnOk Try.prog 57 := ⟨_, Try.func57, by kernel_rfl, by kernel_rfl⟩
theorem good_impl_IsWord : Gx.Good Try.prog 57 S_impl_IsWord := good_of_run Try.func57 (of_decide_eq_true (by kernel_rfl)) fun x r h => ⟨A_impl_IsWord, big, mkCfg_ok tabOk, mkCfg_sigs (show SigsOk Try.prog [(117, S_impl_wordEnd)] from ⟨⟨fn_impl_wordEnd, good_impl_wordEnd⟩, trivial⟩), (run_impl_IsWord big x).trans h⟩

/-! impl_partsOf -/
def impl_partsOf_s (w_0 : (List Int)) : Option (((List Int) × ((List Int) × Unit)) × Unit) :=
  (impl_wordEnd big w_0 (1 : Int)).bind fun rq1 =>
  (slI w_0 (1 : Int) rq1.1).bind fun xq2 =>
  (slI w_0 rq1.1 w_0.length).bind fun xq3 =>
  some ((xq2, xq3, ()), (()))
def impl_partsOf (w_0 : (List Int)) : Option (((List Int) × ((List Int) × Unit)) × Unit) := impl_partsOf_s w_0
def S_impl_partsOf : Sig := { a := (.pair (.sl I) .unit), md := [0], mf := [], m := .unit, r := (.tup (.pair (.sl I) (.pair (.sl I) .unit))), rf := .i, f := fun x => impl_partsOf x.1 }
def A_impl_partsOf : Cfg := mkCfg tab [(117, S_impl_wordEnd)] []
theorem run_impl_partsOf (N : Nat) (x : (S_impl_partsOf).a.den) : runF (A_impl_partsOf) N Try.f121 S_impl_partsOf x = impl_partsOf x.1 := by kernel_rfl
theorem fn_impl_partsOf : FnOk Try.prog 121 := ⟨_, Try.func121, by kernel_rfl, by kernel_rfl⟩
theorem good_impl_partsOf : Gx.Good Try.prog 121 S_impl_partsOf := good_of_run Try.func121 (of_decide_eq_true (by kernel_rfl)) fun x r h => ⟨A_impl_partsOf, big, mkCfg_ok tabOk, mkCfg_sigs (show SigsOk Try.prog [(117, S_impl_wordEnd)] from ⟨⟨fn_impl_wordEnd, good_impl_wordEnd⟩, trivial⟩), (run_impl_partsOf big x).trans h⟩

/-! types of impl_lattice_wordValue -/
def T_impl_lattice_wordValue (self : ((Option ((List (List Bool)) × ((List (List Int)) × ((List (List Int)) × Unit)))) × ((List Int) × ((List Int) × Unit))) → Option (Int × Unit)) : Sig := { a := (.pair (.opt (.pair (.sl (.sl .bool)) (.pair (.sl (.sl I)) (.pair (.sl (.sl I)) .unit)))) (.pair (.sl I) (.pair (.sl I) .unit))), md := [0, 0, 0], mf := [], m := .unit, r := I, rf := .i, f := self }

/-! impl_lattice_wordValue -/
def impl_lattice_wordValue_s (self_impl_lattice_wordValue : ((Option ((List (List Bool)) × ((List (List Int)) × ((List (List Int)) × Unit)))) × ((List Int) × ((List Int) × Unit))) → Option (Int × Unit)) (l_0 : (Option ((List (List Bool)) × ((List (List Int)) × ((List (List Int)) × Unit))))) (w_1 : (List Int)) (elements_2 : (List Int)) : Option (Int × Unit) :=
  (atI w_1 (0 : Int)).bind fun xq1 =>
  cond (decide ((0 : Int) ≤ xq1))
  ((atI w_1 (0 : Int)).bind fun xq2 =>
  (atI elements_2 xq2).bind fun xq3 =>
  some (xq3, (())))
  ((impl_partsOf w_1).bind fun rq4 =>
  (self_impl_lattice_wordValue (l_0, rq4.1.1, elements_2, ())).bind fun rq5 =>
  (self_impl_lattice_wordValue (l_0, rq4.1.2.1, elements_2, ())).bind fun rq6 =>
  (atI w_1 (0 : Int)).bind fun xq7 =>
  cond (decide (xq7 = (-1 : Int)))
  ((l_0).bind fun xq8 =>
  (atI xq8.2.1 rq5.1).bind fun xq9 =>
  (atI xq9 rq6.1).bind fun xq10 =>
  some (xq10, (())))
  ((l_0).bind fun xq11 =>
  (atI xq11.2.2.1 rq5.1).bind fun xq12 =>
  (atI xq12 rq6.1).bind fun xq13 =>
  some (xq13, (()))))
def impl_lattice_wordValue (self_impl_lattice_wordValue : ((Option ((List (List Bool)) × ((List (List Int)) × ((List (List Int)) × Unit)))) × ((List Int) × ((List Int) × Unit))) → Option (Int × Unit)) (l_0 : (Option ((List (List Bool)) × ((List (List Int)) × ((List (List Int)) × Unit))))) (w_1 : (List Int)) (elements_2 : (List Int)) : Option (Int × Unit) := impl_lattice_wordValue_s self_impl_lattice_wordValue l_0 w_1 elements_2
def A_impl_lattice_wordValue (self_impl_lattice_wordValue : ((Option ((List (List Bool)) × ((List (List Int)) × ((List (List Int)) × Unit)))) × ((List Int) × ((List Int) × Unit))) → Option (Int × Unit)) : Cfg := mkCfg tab [(121, S_impl_partsOf), (111, T_impl_lattice_wordValue self_impl_lattice_wordValue)] []
theorem run_impl_lattice_wordValue (self_impl_lattice_wordValue : ((Option ((List (List Bool)) × ((List (List Int)) × ((List (List Int)) × Unit)))) × ((List Int) × ((List Int) × Unit))) → Option (Int × Unit)) (N : Nat) (x : ((T_impl_lattice_wordValue self_impl_lattice_wordValue)).a.den) : runF (A_impl_lattice_wordValue self_impl_lattice_wordValue) N Try.f111 (T_impl_lattice_wordValue self_impl_lattice_wordValue) x = impl_lattice_wordValue self_impl_lattice_wordValue x.1 x.2.1 x.2.2.1 := by kernel_rfl
theorem fn_impl_lattice_wordValue : FnOk Try.prog 111 := ⟨_, Try.func111, by kernel_rfl, by kernel_rfl⟩

/-! recursion -/
def R_impl_lattice_wordValue : Nat → ((Option ((List (List Bool)) × ((List (List Int)) × ((List (List Int)) × Unit)))) × ((List Int) × ((List Int) × Unit))) → Option (Int × Unit)
  | 0, _ => none
  | d + 1, x => impl_lattice_wordValue (R_impl_lattice_wordValue d) x.1 x.2.1 x.2.2.1
def S_impl_lattice_wordValue : Sig := T_impl_lattice_wordValue (R_impl_lattice_wordValue big)
theorem goodR_impl_lattice_wordValue : ∀ d, Gx.Good Try.prog 111 (T_impl_lattice_wordValue (R_impl_lattice_wordValue d))
  | 0 => fun x r h => by cases h
  | d + 1 => good_of_run Try.func111 (of_decide_eq_true (by kernel_rfl)) fun x r h => ⟨A_impl_lattice_wordValue (R_impl_lattice_wordValue d), big, mkCfg_ok tabOk, mkCfg_sigs (show SigsOk Try.prog [(121, S_impl_partsOf), (111, T_impl_lattice_wordValue (R_impl_lattice_wordValue d))] from ⟨⟨fn_impl_partsOf, good_impl_partsOf⟩, ⟨fn_impl_lattice_wordValue, goodR_impl_lattice_wordValue d⟩, trivial⟩), (run_impl_lattice_wordValue (R_impl_lattice_wordValue d) big x).trans h⟩
theorem good_impl_lattice_wordValue : Gx.Good Try.prog 111 S_impl_lattice_wordValue := goodR_impl_lattice_wordValue big

/-! impl_WordValue -/
def impl_WordValue_s (p_0 : ((List (List Int)) × Unit)) (w_1 : (List Int)) (elements_2 : (List Int)) : Option ((Int × (Bool × Unit)) × Unit) :=
  (impl_latticeOf p_0).bind fun rq1 =>
  cond (!rq1.1.2.1)
  (some (((0 : Int), false, ()), (())))
  ((impl_IsWord w_1).bind fun rq2 =>
  cond (!rq2.1)
  (some (((0 : Int), false, ()), (())))
  (cond (decide ((elements_2.length : Int) ≠ (5 : Int)))
  (some (((0 : Int), false, ()), (())))
  ((rq1.1.1).bind fun xq3 =>
  (impl_order_has xq3.1 elements_2).bind fun rq4 =>
  cond (!rq4.1)
  (some (((0 : Int), false, ()), (())))
  ((R_impl_lattice_wordValue big (rq1.1.1, w_1, elements_2, ())).bind fun rq5 =>
  some ((rq5.1, true, ()), (()))))))
def impl_WordValue (p_0 : ((List (List Int)) × Unit)) (w_1 : (List Int)) (elements_2 : (List Int)) : Option ((Int × (Bool × Unit)) × Unit) := impl_WordValue_s p_0 w_1 elements_2
def S_impl_WordValue : Sig := { a := (.pair (.pair (.sl (.sl I)) .unit) (.pair (.sl I) (.pair (.sl I) .unit))), md := [0, 0, 0], mf := [], m := .unit, r := (.tup (.pair I (.pair .bool .unit))), rf := .i, f := fun x => impl_WordValue x.1 x.2.1 x.2.2.1 }
def A_impl_WordValue : Cfg := mkCfg tab [(91, S_impl_latticeOf), (57, S_impl_IsWord), (92, S_impl_order_has), (111, S_impl_lattice_wordValue)] []
theorem run_impl_WordValue (N : Nat) (x : (S_impl_WordValue).a.den) : runF (A_impl_WordValue) N Try.f52 S_impl_WordValue x = impl_WordValue x.1 x.2.1 x.2.2.1 := by kernel_rfl
theorem fn_impl_WordValue : FnOk Try.prog 52 := ⟨_, Try.func52, by kernel_rfl, by kernel_rfl⟩
theorem good_impl_WordValue : Gx.Good Try.prog 52 S_impl_WordValue := good_of_run Try.func52 (of_decide_eq_true (by kernel_rfl)) fun x r h => ⟨A_impl_WordValue, big, mkCfg_ok tabOk, mkCfg_sigs (show SigsOk Try.prog [(91, S_impl_latticeOf), (57, S_impl_IsWord), (92, S_impl_order_has), (111, S_impl_lattice_wordValue)] from ⟨⟨fn_impl_latticeOf, good_impl_latticeOf⟩, ⟨fn_impl_IsWord, good_impl_IsWord⟩, ⟨fn_impl_order_has, good_impl_order_has⟩, ⟨fn_impl_lattice_wordValue, good_impl_lattice_wordValue⟩, trivial⟩), (run_impl_WordValue big x).trans h⟩

/-! laws_FnExactWordValue -/
def laws_FnExactWordValue_s (aP_0 : ((List (List Int)) × Unit)) (aW_1 : (List Int)) (aElements_2 : (List Int)) : Option (Bool × Unit) :=
  cond (decide ((1048576 : Int) < (aW_1.length : Int)))
  (some (true, (())))
  (cond (decide ((1048576 : Int) < (aElements_2.length : Int)))
  (some (true, (())))
  ((laws_szPoset aP_0 (1048576 : Int)).bind fun rq1 =>
  cond (decide (rq1.1 < (0 : Int)))
  (some (true, (())))
  ((laws_toPoset aP_0).bind fun rq2 =>
  (laws_toIntS big aW_1).bind fun rq3 =>
  (laws_toIntS big aElements_2).bind fun rq4 =>
  (spec_WordValue rq2.1 rq3.1 rq4.1).bind fun rq5 =>
  (laws_toPoset aP_0).bind fun rq6 =>
  (laws_toIntS big aW_1).bind fun rq7 =>
  (laws_toIntS big aElements_2).bind fun rq8 =>
  (impl_WordValue rq6.1 rq7.1 rq8.1).bind fun rq9 =>
  cond (decide (rq9.1.1 ≠ rq5.1.1))
  (some (false, (())))
  (cond (rq9.1.2.1 != rq5.1.2.1)
  (some (false, (())))
  ((laws_toPoset aP_0).bind fun rq10 =>
  (laws_eqPoset rq6.1 rq10.1).bind fun rq11 =>
  cond (!rq11.1)
  (some (false, (())))
  ((laws_toIntS big aW_1).bind fun rq12 =>
  (laws_eqIntS big rq7.1 rq12.1).bind fun rq13 =>
  cond (!rq13.1)
  (some (false, (())))
  ((laws_toIntS big aElements_2).bind fun rq14 =>
  (laws_eqIntS big rq8.1 rq14.1).bind fun rq15 =>
  cond (!rq15.1)
  (some (false, (())))
  (some (true, (()))))))))))
def laws_FnExactWordValue (aP_0 : ((List (List Int)) × Unit)) (aW_1 : (List Int)) (aElements_2 : (List Int)) : Option (Bool × Unit) := laws_FnExactWordValue_s aP_0 aW_1 aElements_2
def S_laws_FnExactWordValue : Sig := { a := (.pair (.pair (.sl (.sl I)) .unit) (.pair (.sl I) (.pair (.sl I) .unit))), md := [0, 0, 0], mf := [], m := .unit, r := .bool, rf := .i, f := fun x => laws_FnExactWordValue x.1 x.2.1 x.2.2.1 }
def A_laws_FnExactWordValue : Cfg := mkCfg tab [(39, S_laws_szPoset), (41, S_laws_toPoset), (16, S_laws_toIntS), (51, S_spec_WordValue), (52, S_impl_WordValue), (21, S_laws_eqPoset), (18, S_laws_eqIntS)] []
theorem run_laws_FnExactWordValue (N : Nat) (x : (S_laws_FnExactWordValue).a.den) : runF (A_laws_FnExactWordValue) N Try.f13 S_laws_FnExactWordValue x = laws_FnExactWordValue x.1 x.2.1 x.2.2.1 := by kernel_rfl
theorem fn_laws_FnExactWordValue : FnOk Try.prog 13 := ⟨_, Try.func13, by kernel_rfl, by kernel_rfl⟩
theorem good_laws_FnExactWordValue : Gx.Good Try.prog 13 S_laws_FnExactWordValue := good_of_run Try.func13 (of_decide_eq_true (by kernel_rfl)) fun x r h => ⟨A_laws_FnExactWordValue, big, mkCfg_ok tabOk, mkCfg_sigs (show SigsOk Try.prog [(39, S_laws_szPoset), (41, S_laws_toPoset), (16, S_laws_toIntS), (51, S_spec_WordValue), (52, S_impl_WordValue), (21, S_laws_eqPoset), (18, S_laws_eqIntS)] from ⟨⟨fn_laws_szPoset, good_laws_szPoset⟩, ⟨fn_laws_toPoset, good_laws_toPoset⟩, ⟨fn_laws_toIntS, good_laws_toIntS⟩, ⟨fn_spec_WordValue, good_spec_WordValue⟩, ⟨fn_impl_WordValue, good_impl_WordValue⟩, ⟨fn_laws_eqPoset, good_laws_eqPoset⟩, ⟨fn_laws_eqIntS, good_laws_eqIntS⟩, trivial⟩), (run_laws_FnExactWordValue big x).trans h⟩
end Go.Proofs.Ytbegnofapodldaa
