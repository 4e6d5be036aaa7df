import Derived.Test.YteanfidobhpchaaGPNp3
set_option maxRecDepth 100000
set_option linter.unusedVariables false
namespace Go.Proofs.Yteanfidobhpchaa
open Go Go.Gx Go.Proofs
def vjn (rec : Y2 → Y2 → Y2 → Y4 → Y2 → Int → Y4 → Int → Z11) (k : Y2 → Y2 → Y2 → Y4 → Y2 → Int → Y4 → Z11) (t2 t3 p5 : Y2) (sub6 : Y4) (q7 : Y2) (i8 : Int) (below9 : Y4) (k10 : Int) : Z11 :=
  cond (decide (k10 < (sub6.length : Int)))
  ((atI sub6 k10).bind fun xq13 =>
  (atI sub6 i8).bind fun xq14 =>
  (zz15 p5 xq13 xq14).bind fun rq15 =>
  cond rq15.1
  ((appI below9 [k10]).bind fun xq16 =>
  rec t2 t3 p5 sub6 q7 i8 xq16 (IntKind.i64.wrap (k10 + (1 : Int))))
  (rec t2 t3 p5 sub6 q7 i8 below9 (IntKind.i64.wrap (k10 + (1 : Int)))))
  (k t2 t3 p5 sub6 q7 i8 below9)
def viv (rec : Y2 → Y2 → Y2 → Y4 → Y2 → Int → Z11) (t2 t3 p5 : Y2) (sub6 : Y4) (q7 : Y2) (i8 : Int) (below9 : Y4) : Z11 :=
  (appI q7.1 [below9]).bind fun xq17 =>
  rec t2 t3 p5 sub6 (xq17, ((), q7.2).2) (IntKind.i64.wrap (i8 + (1 : Int)))
def vit (L18 : Y2 → Y2 → Y2 → Y4 → Y2 → Int → Y4 → Int → Z11) (k : Y2 → Y2 → Y2 → Y2 → Z11) (t2 t3 p5 : Y2) (sub6 : Y4) (q7 : Y2) (i8 : Int) : Z11 :=
  cond (decide (i8 < (sub6.length : Int)))
  (L18 t2 t3 p5 sub6 q7 i8 [] (0 : Int))
  (k t2 t3 p5 q7)
def vcu (t2 t3 p5 q7 : Y2) : Z11 :=
  some ((p5, q7, ()), (()))
def vayw (L14 : Y2 → Y2 → Y2 → Y4 → Y2 → Int → Z11) (code_0 : Y4) : Z11 :=
  (zz19 big (code_0, ((0 : Int), ((0 : Int), ())))).bind fun rq1 =>
  (zz2 rq1.2.1 (4 : Int)).bind fun rq2 =>
  cond (decide (rq2.1 = (0 : Int)))
  ((zz13 (4 : Int)).bind fun rq3 =>
  some ((rq1.1, rq3.1, ()), (())))
  (cond (decide (rq2.1 = (1 : Int)))
  ((zz13 (5 : Int)).bind fun rq4 =>
  some ((rq1.1, rq4.1, ()), (())))
  (cond (decide (rq2.1 = (2 : Int)))
  ((zz45 big rq1.1).bind fun rq5 =>
  cond rq5.1
  ((zz2 rq2.2.1 (rq1.1.1.length : Int)).bind fun rq6 =>
  (zz2 rq6.2.1 (rq1.1.1.length : Int)).bind fun rq7 =>
  (zz2 rq7.2.1 (rq1.1.1.length : Int)).bind fun rq8 =>
  (zz74 big rq1.1 [rq6.1, rq7.1, rq8.1]).bind fun rq9 =>
  cond (decide ((0 : Int) < (rq9.1.length : Int)))
  (L14 (([] : Y3), ()) (([] : Y3), ()) rq1.1 rq9.1 ([], ()) (0 : Int))
  ((zz19 big rq8.2.1).bind fun rq10 =>
  some ((rq1.1, rq10.1, ()), (()))))
  ((zz19 big rq2.2.1).bind fun rq11 =>
  some ((rq1.1, rq11.1, ()), (()))))
  ((zz19 big rq2.2.1).bind fun rq12 =>
  some ((rq1.1, rq12.1, ()), (())))))
def vvn (N : Nat) (k : Y2 → Y2 → Y2 → Y4 → Y2 → Int → Y4 → Z11) : Nat → Y2 → Y2 → Y2 → Y4 → Y2 → Int → Y4 → Int → Z11
  | 0, _, _, _, _, _, _, _, _ => none
  | m + 1, t2, t3, p5, sub6, q7, i8, below9, k10 => vjn (vvn N k m) k t2 t3 p5 sub6 q7 i8 below9 k10
def vpo (N : Nat) (rec : Y2 → Y2 → Y2 → Y4 → Y2 → Int → Z11) (k : Y2 → Y2 → Y2 → Y2 → Z11) (t2 t3 p5 : Y2) (sub6 : Y4) (q7 : Y2) (i8 : Int) (below9 : Y4) (k10 : Int) : Z11 := vvn N (viv rec) N t2 t3 p5 sub6 q7 i8 below9 k10
def vul (N : Nat) (k : Y2 → Y2 → Y2 → Y2 → Z11) : Nat → Y2 → Y2 → Y2 → Y4 → Y2 → Int → Z11
  | 0, _, _, _, _, _, _ => none
  | m + 1, t2, t3, p5, sub6, q7, i8 => vit (vpo N (vul N k m) k) k t2 t3 p5 sub6 q7 i8
def vaht (N : Nat) (t2 t3 p5 : Y2) (sub6 : Y4) (q7 : Y2) (i8 : Int) : Z11 := vul N (vcu) N t2 t3 p5 sub6 q7 i8
def zz75 (N : Nat) (code_0 : Y4) : Z11 := vayw (vaht N) code_0
def S_zz75 : Sig := { a := (.pair Q15 .unit), md := [0], mf := [], m := .unit, r := (.tup (.pair Q0 Q11)), rf := .i, f := fun x => zz75 big x.1 }
def A_zz75 : Cfg := mkCfg tab [(62, S_zz19), (63, S_zz2), (64, S_zz13), (45, S_zz45), (65, S_zz74), (66, S_zz15)] [(28, [.drop, .drop, .as Q4 P1, .as Q4 P1, .drop, .as Q4 P5, .as Q7 .i, .as Q4 P1, .as I .i]), (36, [.drop, .drop, .as Q4 P1, .as Q4 P1, .drop, .as Q4 P5, .as Q7 .i, .as Q4 P1, .as I .i, .as Q7 P5, .as I .i]), (47, [.drop, .drop, .as Q4 P1, .as Q4 P1, .drop, .as Q4 P5, .drop, .as Q4 P1]), (45, [.drop, .drop, .as Q4 P1, .as Q4 P1, .drop, .as Q4 P5, .as Q7 .i, .as Q4 P1, .as I .i, .as Q7 P5])]
noncomputable def vcp (N n : Nat) (K : Ex → St → Z11) (t2 t3 p5 : Y2) (sub6 : Y4) (q7 : Y2) (i8 : Int) : Z11 := iter ((A_zz75).shape 28) (run (A_zz75) N (codeAt Try.f19 [1, 1, 1, 0, 1, 0, 1, 1, 1, 1, 1, 0, 1, 0, 1, 1, 0, 1, 0, 1, 0, 0])) n ([.u, .u, W1 t2, W1 t3, .u, W2 p5, W4 sub6, W1 q7, W0 i8] ++ List.replicate 82 .u) K
noncomputable def vec (N n : Nat) (K : Ex → St → Z11) (t2 t3 p5 : Y2) (sub6 : Y4) (q7 : Y2) (i8 : Int) (below9 : Y4) (k10 : Int) : Z11 := iter ((A_zz75).shape 36) (run (A_zz75) N (codeAt Try.f19 [1, 1, 1, 0, 1, 0, 1, 1, 1, 1, 1, 0, 1, 0, 1, 1, 0, 1, 0, 1, 0, 0, 1, 0, 0, 1, 0, 1, 0, 0])) n ([.u, .u, W1 t2, W1 t3, .u, W2 p5, W4 sub6, W1 q7, W0 i8, W3 below9, W0 k10] ++ List.replicate 80 .u) K
noncomputable abbrev vajy : Ex → St → Z11 := finish (A_zz75) S_zz75 Try.f19.results.toList
noncomputable abbrev vub (kX : St → Z11) (t2 t3 p5 q7 : Y2) : Z11 := kX ([.u, .u, W1 t2, W1 t3, .u, W2 p5, .u, W1 q7] ++ List.replicate 83 .u)
noncomputable abbrev vej (kX : St → Z11) (kO : Nat → St → Z11) : Ex → St → Z11 := exK vajy 1 ((A_zz75).shape 47) kX kO
noncomputable abbrev vahp (kX : St → Z11) (t2 t3 p5 : Y2) (sub6 : Y4) (q7 : Y2) (i8 : Int) (below9 : Y4) : Z11 := kX ([.u, .u, W1 t2, W1 t3, .u, W2 p5, W4 sub6, W1 q7, W0 i8, W3 below9] ++ List.replicate 81 .u)
noncomputable abbrev vuw (kX : St → Z11) (kO : Nat → St → Z11) : Ex → St → Z11 := exK vajy 3 ((A_zz75).shape 45) kX kO
theorem vaga (N kX kO) : ∀ n, vec N n (vuw kX kO) = vvn N (vahp kX) n
 | 0 => rfl
 | m + 1 => (show vec N (m + 1) (vuw kX kO) = vjn (vec N m (vuw kX kO)) (vahp kX) by kernel_rfl).trans (by rw [vaga N kX kO m]; funext _ _ _ _ _ _ _ _; rfl)
noncomputable abbrev vve (N m : Nat) (kX : St → Z11) (kO : Nat → St → Z11) : Ex → St → Z11 := (blockK 3 (sqK (A_zz75) N 45 500022 (codeAt Try.f19 [1, 1, 1, 0, 1, 0, 1, 1, 1, 1, 1, 0, 1, 0, 1, 1, 0, 1, 0, 1, 0, 0, 1, 0, 0, 1, 1]) (blockK 2 (sqK (A_zz75) N 31 500015 (codeAt Try.f19 [1, 1, 1, 0, 1, 0, 1, 1, 1, 1, 1, 0, 1, 0, 1, 1, 0, 1, 0, 1, 0, 0, 1, 1]) (itK (A_zz75) N 28 (codeAt Try.f19 [1, 1, 1, 0, 1, 0, 1, 1, 1, 1, 1, 0, 1, 0, 1, 1, 0, 1, 0, 1, 0, 0]) m (vej kX kO))))))
noncomputable abbrev vazr (N m : Nat) (kX : St → Z11) (kO : Nat → St → Z11) (st' : St) : Z11 := run (A_zz75) N (codeAt Try.f19 [1, 1, 1, 0, 1, 0, 1, 1, 1, 1, 1, 0, 1, 0, 1, 1, 0, 1, 0, 1, 0, 0, 1, 0, 0, 1, 1]) st' (blockK 2 (sqK (A_zz75) N 31 500015 (codeAt Try.f19 [1, 1, 1, 0, 1, 0, 1, 1, 1, 1, 1, 0, 1, 0, 1, 1, 0, 1, 0, 1, 0, 0, 1, 1]) (itK (A_zz75) N 28 (codeAt Try.f19 [1, 1, 1, 0, 1, 0, 1, 1, 1, 1, 1, 0, 1, 0, 1, 1, 0, 1, 0, 1, 0, 0]) m (vej kX kO))))
theorem vbje (N m kX kO) {r} (h : vcp N m (vej kX kO) = r) : vec N N (vve N m kX kO) = vpo N r (vub kX) := by
 rw [show vec N N (vve N m kX kO) = vec N N (vuw (vazr N m kX kO) fun j => (vve N m kX kO) (.exit j)) from (by funext _ _ _ _ _ _ _ _; exact vac (fun _ => by kernel_rfl) fun _ => by kernel_rfl), vaga, show vahp (vazr N m kX kO) = viv (vcp N m (vej kX kO)) by kernel_rfl, h]; rfl
theorem vafl (N kX kO) : ∀ n, vcp N n (vej kX kO) = vul N (vub kX) n
 | 0 => rfl
 | m + 1 => (show vcp N (m + 1) (vej kX kO) = vit (vec N N (vve N m kX kO)) (vub kX) by kernel_rfl).trans (by rw [vbje N m kX kO (vafl N kX kO m)]; funext _ _ _ _ _ _; rfl)
noncomputable abbrev vtd (N : Nat) : Ex → St → Z11 := (blockK 1 (sqK (A_zz75) N 47 500023 (codeAt Try.f19 [1, 1, 1, 0, 1, 0, 1, 1, 1, 1, 1, 0, 1, 0, 1, 1, 0, 1, 1]) (blockK 0 (sqK (A_zz75) N 49 500024 (codeAt Try.f19 [1, 1, 1, 1]) vajy))))
noncomputable abbrev vatv (N : Nat) (st' : St) : Z11 := run (A_zz75) N (codeAt Try.f19 [1, 1, 1, 0, 1, 0, 1, 1, 1, 1, 1, 0, 1, 0, 1, 1, 0, 1, 1]) st' (blockK 0 (sqK (A_zz75) N 49 500024 (codeAt Try.f19 [1, 1, 1, 1]) vajy))
theorem vbkg (N) : vcp N N (vtd N) = vaht N := by
 rw [show vcp N N (vtd N) = vcp N N (vej (vatv N) fun j => (vtd N) (.exit j)) from (by funext _ _ _ _ _ _; exact vac (fun _ => by kernel_rfl) fun _ => by kernel_rfl), vafl, show vub (vatv N) = vcu by kernel_rfl]; rfl
theorem run0_zz75 (N : Nat) (x : (S_zz75).a.den) : runF (A_zz75) N Try.f19 S_zz75 x = (vayw (vcp N N (vtd N)) x.1) := by kernel_rfl
theorem run_zz75 (N : Nat) (x : (S_zz75).a.den) : runF (A_zz75) N Try.f19 S_zz75 x = zz75 N x.1 := by
  refine (run0_zz75 N x).trans ?_
  rw [vbkg N]
  rfl
theorem fn_zz75 : FnOk Try.prog 19 := ⟨_, Try.func19, by kernel_rfl, by kernel_rfl⟩
theorem good_zz75 : Gx.Good Try.prog 19 S_zz75 := vaa Try.func19 (of_decide_eq_true (by kernel_rfl)) fun x r h => ⟨A_zz75, big, vad tabOk, vab (show SigsOk Try.prog [(62, S_zz19), (63, S_zz2), (64, S_zz13), (45, S_zz45), (65, S_zz74), (66, S_zz15)] from ⟨⟨fn_zz19, good_zz19⟩, ⟨fn_zz2, good_zz2⟩, ⟨fn_zz13, good_zz13⟩, ⟨fn_zz45, good_zz45⟩, ⟨fn_zz74, good_zz74⟩, ⟨fn_zz15, good_zz15⟩, trivial⟩), (run_zz75 big x).trans h⟩
def vph (rec : Y4 → Y2 → Y2 → Int → Int → Int → Z1) (k : Y4 → Y2 → Y2 → Int → Int → Z1) (list2 : Y4) (p3 q4 : Y2) (last7 y8 z9 : Int) : Z1 :=
  cond (decide (z9 ≤ y8))
  ((zz46 q4 y8 z9).bind fun rq1 =>
  (zz47 q4 y8 z9).bind fun rq2 =>
  cond (decide (rq1.1 ≤ last7))
  ((atI list2 y8).bind fun xq3 =>
  (atI list2 z9).bind fun xq4 =>
  (zz46 p3 xq3 xq4).bind fun rq5 =>
  (atI list2 rq1.1).bind fun xq6 =>
  cond (decide (rq5.1 ≠ xq6))
  (some (false, (())))
  (cond (decide (rq2.1 ≤ last7))
  ((atI list2 y8).bind fun xq7 =>
  (atI list2 z9).bind fun xq8 =>
  (zz47 p3 xq7 xq8).bind fun rq9 =>
  (atI list2 rq2.1).bind fun xq10 =>
  cond (decide (rq9.1 ≠ xq10))
  (some (false, (())))
  (rec list2 p3 q4 last7 y8 (IntKind.i64.wrap (z9 + (1 : Int)))))
  (rec list2 p3 q4 last7 y8 (IntKind.i64.wrap (z9 + (1 : Int))))))
  (cond (decide (rq2.1 ≤ last7))
  ((atI list2 y8).bind fun xq11 =>
  (atI list2 z9).bind fun xq12 =>
  (zz47 p3 xq11 xq12).bind fun rq13 =>
  (atI list2 rq2.1).bind fun xq14 =>
  cond (decide (rq13.1 ≠ xq14))
  (some (false, (())))
  (rec list2 p3 q4 last7 y8 (IntKind.i64.wrap (z9 + (1 : Int)))))
  (rec list2 p3 q4 last7 y8 (IntKind.i64.wrap (z9 + (1 : Int))))))
  (k list2 p3 q4 last7 y8)
def vos (rec : Y4 → Y2 → Y2 → Int → Int → Z1) (list2 : Y4) (p3 q4 : Y2) (last7 y8 : Int) : Z1 :=
  rec list2 p3 q4 last7 (IntKind.i64.wrap (y8 + (1 : Int)))
def vnd (L6 : Y4 → Y2 → Y2 → Int → Int → Int → Z1) (k : Z1) (list2 : Y4) (p3 q4 : Y2) (last7 y8 : Int) : Z1 :=
  cond (decide (y8 < (list2.length : Int)))
  (L6 list2 p3 q4 last7 y8 (0 : Int))
  (k)
def vhi : Z1 :=
  some (true, (()))
def vawx (L3 : Y4 → Y2 → Y2 → Int → Int → Z1) (p_0 q_1 : Y2) (list_2 : Y4) : Z1 :=
  L3 list_2 p_0 q_1 (IntKind.i64.wrap ((list_2.length : Int) - (1 : Int))) (0 : Int)
def vzs (N : Nat) (k : Y4 → Y2 → Y2 → Int → Int → Z1) : Nat → Y4 → Y2 → Y2 → Int → Int → Int → Z1
  | 0, _, _, _, _, _, _ => none
  | m + 1, list2, p3, q4, last7, y8, z9 => vph (vzs N k m) k list2 p3 q4 last7 y8 z9
def vrf (N : Nat) (rec : Y4 → Y2 → Y2 → Int → Int → Z1) (k : Z1) (list2 : Y4) (p3 q4 : Y2) (last7 y8 z9 : Int) : Z1 := vzs N (vos rec) N list2 p3 q4 last7 y8 z9
def vzk (N : Nat) (k : Z1) : Nat → Y4 → Y2 → Y2 → Int → Int → Z1
  | 0, _, _, _, _, _ => none
  | m + 1, list2, p3, q4, last7, y8 => vnd (vrf N (vzk N k m) k) k list2 p3 q4 last7 y8
def vaoi (N : Nat) (list2 : Y4) (p3 q4 : Y2) (last7 y8 : Int) : Z1 := vzk N (vhi) N list2 p3 q4 last7 y8
def zz76 (N : Nat) (p_0 q_1 : Y2) (list_2 : Y4) : Z1 := vawx (vaoi N) p_0 q_1 list_2
def S_zz76 : Sig := { a := (.pair Q0 (.pair Q0 Q12)), md := [0, 0, 0], mf := [], m := .unit, r := .bool, rf := .i, f := fun x => zz76 big x.1 x.2.1 x.2.2.1 }
def A_zz76 : Cfg := mkCfg tab [(46, S_zz46), (47, S_zz47)] [(6, [.drop, .drop, .as Q7 .i, .as Q4 P5, .as Q4 P5, .drop, .drop, .as I .i, .as I .i]), (12, [.drop, .drop, .as Q7 .i, .as Q4 P5, .as Q4 P5, .drop, .drop, .as I .i, .as I .i, .as I .i]), (23, []), (9, [.drop, .drop, .as Q7 .i, .as Q4 P5, .as Q4 P5, .drop, .drop, .as I .i, .as I .i])]
noncomputable def vgd (N n : Nat) (K : Ex → St → Z1) (list2 : Y4) (p3 q4 : Y2) (last7 y8 : Int) : Z1 := iter ((A_zz76).shape 6) (run (A_zz76) N (codeAt Try.f104 [1, 1, 0, 1, 0, 0])) n ([.u, .u, W4 list2, W2 p3, W2 q4, .u, .u, W0 last7, W0 y8] ++ List.replicate 67 .u) K
noncomputable def vhy (N n : Nat) (K : Ex → St → Z1) (list2 : Y4) (p3 q4 : Y2) (last7 y8 z9 : Int) : Z1 := iter ((A_zz76).shape 12) (run (A_zz76) N (codeAt Try.f104 [1, 1, 0, 1, 0, 0, 1, 0, 0, 1, 0, 0])) n ([.u, .u, W4 list2, W2 p3, W2 q4, .u, .u, W0 last7, W0 y8, W0 z9] ++ List.replicate 66 .u) K
noncomputable abbrev valq : Ex → St → Z1 := finish (A_zz76) S_zz76 Try.f104.results.toList
noncomputable abbrev vads (kX : St → Z1) : Z1 := kX ([] ++ List.replicate 76 .u)
noncomputable abbrev vkc (kX : St → Z1) (kO : Nat → St → Z1) : Ex → St → Z1 := exK valq 0 ((A_zz76).shape 23) kX kO
noncomputable abbrev vaoq (kX : St → Z1) (list2 : Y4) (p3 q4 : Y2) (last7 y8 : Int) : Z1 := kX ([.u, .u, W4 list2, W2 p3, W2 q4, .u, .u, W0 last7, W0 y8] ++ List.replicate 67 .u)
noncomputable abbrev vya (kX : St → Z1) (kO : Nat → St → Z1) : Ex → St → Z1 := exK valq 2 ((A_zz76).shape 9) kX kO
theorem vamw (N kX kO) : ∀ n, vhy N n (vya kX kO) = vzs N (vaoq kX) n
 | 0 => rfl
 | m + 1 => (show vhy N (m + 1) (vya kX kO) = vph (vhy N m (vya kX kO)) (vaoq kX) by kernel_rfl).trans (by rw [vamw N kX kO m]; funext _ _ _ _ _ _; rfl)
noncomputable abbrev vaay (N m : Nat) (kX : St → Z1) (kO : Nat → St → Z1) : Ex → St → Z1 := (blockK 2 (blockK 1 (sqK (A_zz76) N 9 500004 (codeAt Try.f104 [1, 1, 0, 1, 0, 0, 1, 1]) (itK (A_zz76) N 6 (codeAt Try.f104 [1, 1, 0, 1, 0, 0]) m (vkc kX kO)))))
noncomputable abbrev vbfu (N m : Nat) (kX : St → Z1) (kO : Nat → St → Z1) (st' : St) : Z1 := run (A_zz76) N (codeAt Try.f104 [1, 1, 0, 1, 0, 0, 1, 1]) st' (itK (A_zz76) N 6 (codeAt Try.f104 [1, 1, 0, 1, 0, 0]) m (vkc kX kO))
theorem vbpk (N m kX kO) {r} (h : vgd N m (vkc kX kO) = r) : vhy N N (vaay N m kX kO) = vrf N r (vads kX) := by
 rw [show vhy N N (vaay N m kX kO) = vhy N N (vya (vbfu N m kX kO) fun j => (vaay N m kX kO) (.exit j)) from (by funext _ _ _ _ _ _; exact vac (fun _ => by kernel_rfl) fun _ => by kernel_rfl), vamw, show vaoq (vbfu N m kX kO) = vos (vgd N m (vkc kX kO)) by kernel_rfl, h]; rfl
theorem vajn (N kX kO) : ∀ n, vgd N n (vkc kX kO) = vzk N (vads kX) n
 | 0 => rfl
 | m + 1 => (show vgd N (m + 1) (vkc kX kO) = vnd (vhy N N (vaay N m kX kO)) (vads kX) by kernel_rfl).trans (by rw [vbpk N m kX kO (vajn N kX kO m)]; funext _ _ _ _ _; rfl)
noncomputable abbrev vact (N : Nat) : Ex → St → Z1 := (blockK 0 (sqK (A_zz76) N 23 500011 (codeAt Try.f104 [1, 1, 1]) valq))
noncomputable abbrev vbbb (N : Nat) (st' : St) : Z1 := run (A_zz76) N (codeAt Try.f104 [1, 1, 1]) st' valq
theorem vbni (N) : vgd N N (vact N) = vaoi N := by
 rw [show vgd N N (vact N) = vgd N N (vkc (vbbb N) fun j => (vact N) (.exit j)) from (by funext _ _ _ _ _; exact vac (fun _ => by kernel_rfl) fun _ => by kernel_rfl), vajn, show vads (vbbb N) = vhi by kernel_rfl]; rfl
theorem run0_zz76 (N : Nat) (x : (S_zz76).a.den) : runF (A_zz76) N Try.f104 S_zz76 x = (vawx (vgd N N (vact N)) x.1 x.2.1 x.2.2.1) := by kernel_rfl
theorem run_zz76 (N : Nat) (x : (S_zz76).a.den) : runF (A_zz76) N Try.f104 S_zz76 x = zz76 N x.1 x.2.1 x.2.2.1 := by
  refine (run0_zz76 N x).trans ?_
  rw [vbni N]
  rfl
theorem fn_zz76 : FnOk Try.prog 104 := ⟨_, Try.func104, by kernel_rfl, by kernel_rfl⟩
theorem good_zz76 : Gx.Good Try.prog 104 S_zz76 := vaa Try.func104 (of_decide_eq_true (by kernel_rfl)) fun x r h => ⟨A_zz76, big, vad tabOk, vab (show SigsOk Try.prog [(46, S_zz46), (47, S_zz47)] from ⟨⟨fn_zz46, good_zz46⟩, ⟨fn_zz47, good_zz47⟩, trivial⟩), (run_zz76 big x).trans h⟩
def T_zz77 (self : Z18 → Z0) : Sig := { a := (.pair Q0 (.pair Q0 Q12)), md := [0, 0, 0], mf := [], m := .unit, r := Q9, rf := .i, f := self }
def voy (self_zz77 : Z18 → Z0) (rec : Y4 → Y2 → Y2 → Int → Z0) (k : Z0) (begun2 : Y4) (p3 q4 : Y2) (x8 : Int) : Z0 :=
  cond (decide (x8 < (p3.1.length : Int)))
  ((zz73 begun2).bind fun rq1 =>
  (appI rq1.1 [x8]).bind fun xq2 =>
  (zz14 big begun2 x8).bind fun rq3 =>
  cond rq3.1
  (rec begun2 p3 q4 (IntKind.i64.wrap (x8 + (1 : Int))))
  ((zz76 big p3 q4 xq2).bind fun rq4 =>
  cond (!rq4.1)
  (rec begun2 p3 q4 (IntKind.i64.wrap (x8 + (1 : Int))))
  ((self_zz77 (p3, q4, xq2, ())).bind fun rq5 =>
  cond rq5.1.2.1
  (some ((rq5.1.1, true, ()), (())))
  (rec begun2 p3 q4 (IntKind.i64.wrap (x8 + (1 : Int)))))))
  (k)
def vme (self_zz77 : Z18 → Z0) : Z0 :=
  some (([], false, ()), (()))
def vakg (self_zz77 : Z18 → Z0) (L4 : Y4 → Y2 → Y2 → Int → Z0) (p_0 q_1 : Y2) (begun_2 : Y4) : Z0 :=
  cond (decide ((begun_2.length : Int) = (q_1.1.length : Int)))
  (some ((begun_2, true, ()), (())))
  (L4 begun_2 p_0 q_1 (0 : Int))
def vxr (self_zz77 : Z18 → Z0) (N : Nat) (k : Z0) : Nat → Y4 → Y2 → Y2 → Int → Z0
  | 0, _, _, _, _ => none
  | m + 1, begun2, p3, q4, x8 => voy self_zz77 (vxr self_zz77 N k m) k begun2 p3 q4 x8
def vapo (self_zz77 : Z18 → Z0) (N : Nat) (begun2 : Y4) (p3 q4 : Y2) (x8 : Int) : Z0 := vxr self_zz77 N (vme self_zz77) N begun2 p3 q4 x8
def zz77 (self_zz77 : Z18 → Z0) (N : Nat) (p_0 q_1 : Y2) (begun_2 : Y4) : Z0 := vakg self_zz77 (vapo self_zz77 N) p_0 q_1 begun_2
def A_zz77 (self_zz77 : Z18 → Z0) : Cfg := mkCfg tab [(103, S_zz73), (87, S_zz14), (104, S_zz76), (67, T_zz77 self_zz77)] [(8, [.drop, .drop, .as Q7 .i, .as Q4 P5, .as Q4 P5, .drop, .drop, .drop, .as I .i]), (23, [])]
noncomputable def vin (self_zz77 : Z18 → Z0) (N n : Nat) (K : Ex → St → Z0) (begun2 : Y4) (p3 q4 : Y2) (x8 : Int) : Z0 := iter ((A_zz77 self_zz77).shape 8) (run (A_zz77 self_zz77) N (codeAt Try.f67 [1, 1, 0, 1, 0, 0])) n ([.u, .u, W4 begun2, W2 p3, W2 q4, .u, .u, .u, W0 x8] ++ List.replicate 42 .u) K
noncomputable abbrev vayd (self_zz77 : Z18 → Z0) : Ex → St → Z0 := finish (A_zz77 self_zz77) (T_zz77 self_zz77) Try.f67.results.toList
noncomputable abbrev vaqt (kX : St → Z0) : Z0 := kX ([] ++ List.replicate 51 .u)
noncomputable abbrev vaco (self_zz77 : Z18 → Z0) (kX : St → Z0) (kO : Nat → St → Z0) : Ex → St → Z0 := exK (vayd self_zz77) 0 ((A_zz77 self_zz77).shape 23) kX kO
theorem vaim (self_zz77 : Z18 → Z0) (N kX kO) : ∀ n, vin self_zz77 N n (vaco self_zz77 kX kO) = vxr self_zz77 N (vaqt kX) n
 | 0 => rfl
 | m + 1 => (show vin self_zz77 N (m + 1) (vaco self_zz77 kX kO) = voy self_zz77 (vin self_zz77 N m (vaco self_zz77 kX kO)) (vaqt kX) by kernel_rfl).trans (by rw [vaim self_zz77 N kX kO m]; funext _ _ _ _; rfl)
noncomputable abbrev vadu (self_zz77 : Z18 → Z0) (N : Nat) : Ex → St → Z0 := (blockK 0 (sqK (A_zz77 self_zz77) N 23 500011 (codeAt Try.f67 [1, 1, 1]) (vayd self_zz77)))
noncomputable abbrev vbbc (self_zz77 : Z18 → Z0) (N : Nat) (st' : St) : Z0 := run (A_zz77 self_zz77) N (codeAt Try.f67 [1, 1, 1]) st' (vayd self_zz77)
theorem vbmd (self_zz77 : Z18 → Z0) (N) : vin self_zz77 N N (vadu self_zz77 N) = vapo self_zz77 N := by
 rw [show vin self_zz77 N N (vadu self_zz77 N) = vin self_zz77 N N (vaco self_zz77 (vbbc self_zz77 N) fun j => (vadu self_zz77 N) (.exit j)) from (by funext _ _ _ _; exact vac (fun _ => by kernel_rfl) fun _ => by kernel_rfl), vaim, show vaqt (vbbc self_zz77 N) = vme self_zz77 by kernel_rfl]; rfl
theorem run0_zz77 (self_zz77 : Z18 → Z0) (N : Nat) (x : ((T_zz77 self_zz77)).a.den) : runF (A_zz77 self_zz77) N Try.f67 (T_zz77 self_zz77) x = (vakg self_zz77 (vin self_zz77 N N (vadu self_zz77 N)) x.1 x.2.1 x.2.2.1) := by kernel_rfl
theorem run_zz77 (self_zz77 : Z18 → Z0) (N : Nat) (x : ((T_zz77 self_zz77)).a.den) : runF (A_zz77 self_zz77) N Try.f67 (T_zz77 self_zz77) x = zz77 self_zz77 N x.1 x.2.1 x.2.2.1 := by
  refine (run0_zz77 self_zz77 N x).trans ?_
  rw [vbmd self_zz77 N]
  rfl
theorem fn_zz77 : FnOk Try.prog 67 := ⟨_, Try.func67, by kernel_rfl, by kernel_rfl⟩
def R_zz77 : Nat → Z18 → Z0
  | 0, _ => none
  | d + 1, x => zz77 (R_zz77 d) big x.1 x.2.1 x.2.2.1
def S_zz77 : Sig := T_zz77 (R_zz77 big)
theorem vls : ∀ d, Gx.Good Try.prog 67 (T_zz77 (R_zz77 d))
  | 0 => fun x r h => by cases h
  | d + 1 => vaa Try.func67 (of_decide_eq_true (by kernel_rfl)) fun x r h => ⟨A_zz77 (R_zz77 d), big, vad tabOk, vab (show SigsOk Try.prog [(103, S_zz73), (87, S_zz14), (104, S_zz76), (67, T_zz77 (R_zz77 d))] from ⟨⟨fn_zz73, good_zz73⟩, ⟨fn_zz14, good_zz14⟩, ⟨fn_zz76, good_zz76⟩, ⟨fn_zz77, vls d⟩, trivial⟩), (run_zz77 (R_zz77 d) big x).trans h⟩
theorem good_zz77 : Gx.Good Try.prog 67 S_zz77 := vls big
def vbkk (p_0 q_1 : Y2) : Z0 :=
  (zz45 big p_0).bind fun rq1 =>
  cond (!rq1.1)
  (some (([], false, ()), (())))
  ((zz45 big q_1).bind fun rq2 =>
  cond (!rq2.1)
  (some (([], false, ()), (())))
  ((R_zz77 big (p_0, q_1, [], ())).bind fun rq3 =>
  some ((rq3.1.1, rq3.1.2.1, ()), (()))))
def zz79 (p_0 q_1 : Y2) : Z0 := vbkk p_0 q_1
def S_zz79 : Sig := { a := (.pair Q0 Q11), md := [0, 0], mf := [], m := .unit, r := Q9, rf := .i, f := fun x => zz79 x.1 x.2.1 }
def A_zz79 : Cfg := mkCfg tab [(45, S_zz45), (67, S_zz77)] []
theorem run_zz79 (N : Nat) (x : (S_zz79).a.den) : runF (A_zz79) N Try.f20 S_zz79 x = zz79 x.1 x.2.1 := by kernel_rfl
theorem fn_zz79 : FnOk Try.prog 20 := ⟨_, Try.func20, by kernel_rfl, by kernel_rfl⟩
theorem good_zz79 : Gx.Good Try.prog 20 S_zz79 := vaa Try.func20 (of_decide_eq_true (by kernel_rfl)) fun x r h => ⟨A_zz79, big, vad tabOk, vab (show SigsOk Try.prog [(45, S_zz45), (67, S_zz77)] from ⟨⟨fn_zz45, good_zz45⟩, ⟨fn_zz77, good_zz77⟩, trivial⟩), (run_zz79 big x).trans h⟩
def laws_FnPentagons_s (code_0 : Y4) : Z1 :=
  (zz0 code_0).bind fun rq1 =>
  cond rq1.1
  (some (true, (())))
  ((zz21 code_0).bind fun rq2 =>
  (zz39 rq2.1).bind fun rq3 =>
  (zz50 big rq2.1).bind fun rq4 =>
  cond (((((), rq3.1.2).2).1) != ((((), rq4.1.2).2).1))
  (some (false, (())))
  ((zz51 big rq3.1.1 rq4.1.1).bind fun rq5 =>
  cond (!rq5.1)
  (some (false, (())))
  ((zz54 rq2.1).bind fun rq6 =>
  (zz55 big rq2.1).bind fun rq7 =>
  cond (((((), rq6.1.2).2).1) != ((((), rq7.1.2).2).1))
  (some (false, (())))
  ((zz51 big rq6.1.1 rq7.1.1).bind fun rq8 =>
  cond (!rq8.1)
  (some (false, (())))
  ((zz57 rq2.1).bind fun rq9 =>
  (zz59 rq2.1).bind fun rq10 =>
  cond (rq9.1.1 != rq10.1.1)
  (some (false, (())))
  (cond (rq9.1.2.1 != rq10.1.2.1)
  (some (false, (())))
  (cond rq9.1.2.1
  (cond (rq9.1.1 == ((((), rq3.1.2).2).1))
  (some (false, (())))
  ((zz61 rq2.1).bind fun rq11 =>
  cond (rq11.1.2.1 != rq9.1.2.1)
  (some (false, (())))
  (cond rq9.1.2.1
  (cond (!((((), rq3.1.2).2).1))
  (cond (rq11.1.1 != (!((((), rq6.1.2).2).1)))
  (some (false, (())))
  ((zz62 rq2.1).bind fun rq12 =>
  (zz63 rq2.1).bind fun rq13 =>
  cond (rq12.1.2.1 != ((((), rq13.1.2).2).1))
  (some (false, (())))
  (cond (rq12.1.2.1 != ((((), rq3.1.2).2).1))
  (some (false, (())))
  ((zz51 big rq12.1.1 rq13.1.1).bind fun rq14 =>
  cond (!rq14.1)
  (some (false, (())))
  (cond ((((), rq3.1.2).2).1)
  ((zz66 big (5 : Int) [((0 : Int), ((1 : Int), ())), ((1 : Int), ((2 : Int), ())), ((2 : Int), ((4 : Int), ())), ((0 : Int), ((3 : Int), ())), ((3 : Int), ((4 : Int), ()))]).bind fun rq15 =>
  (zz72 rq2.1 rq15.1.1).bind fun rq16 =>
  cond (!((((), rq15.1.2).2).1))
  (some (false, (())))
  (cond (!rq16.1.2.1)
  (some (false, (())))
  ((zz51 big rq16.1.1 rq3.1.1).bind fun rq17 =>
  cond (!rq17.1)
  (some (false, (())))
  (cond ((((), rq6.1.2).2).1)
  ((zz66 big (5 : Int) [((0 : Int), ((1 : Int), ())), ((0 : Int), ((2 : Int), ())), ((0 : Int), ((3 : Int), ())), ((1 : Int), ((4 : Int), ())), ((2 : Int), ((4 : Int), ())), ((3 : Int), ((4 : Int), ()))]).bind fun rq18 =>
  (zz72 rq2.1 rq18.1.1).bind fun rq19 =>
  cond (!((((), rq18.1.2).2).1))
  (some (false, (())))
  (cond (!rq19.1.2.1)
  (some (false, (())))
  ((zz51 big rq19.1.1 rq6.1.1).bind fun rq20 =>
  cond (!rq20.1)
  (some (false, (())))
  ((zz75 big code_0).bind fun rq21 =>
  (zz72 rq21.1.1 rq21.1.2.1).bind fun rq22 =>
  (zz79 rq21.1.1 rq21.1.2.1).bind fun rq23 =>
  cond (rq22.1.2.1 == rq23.1.2.1)
  ((zz51 big rq22.1.1 rq23.1.1).bind fun rq24 =>
  some (rq24.1, (())))
  (some (false, (())))))))
  ((zz75 big code_0).bind fun rq25 =>
  (zz72 rq25.1.1 rq25.1.2.1).bind fun rq26 =>
  (zz79 rq25.1.1 rq25.1.2.1).bind fun rq27 =>
  cond (rq26.1.2.1 == rq27.1.2.1)
  ((zz51 big rq26.1.1 rq27.1.1).bind fun rq28 =>
  some (rq28.1, (())))
  (some (false, (()))))))))
  (cond ((((), rq6.1.2).2).1)
  ((zz66 big (5 : Int) [((0 : Int), ((1 : Int), ())), ((0 : Int), ((2 : Int), ())), ((0 : Int), ((3 : Int), ())), ((1 : Int), ((4 : Int), ())), ((2 : Int), ((4 : Int), ())), ((3 : Int), ((4 : Int), ()))]).bind fun rq29 =>
  (zz72 rq2.1 rq29.1.1).bind fun rq30 =>
  cond (!((((), rq29.1.2).2).1))
  (some (false, (())))
  (cond (!rq30.1.2.1)
  (some (false, (())))
  ((zz51 big rq30.1.1 rq6.1.1).bind fun rq31 =>
  cond (!rq31.1)
  (some (false, (())))
  ((zz75 big code_0).bind fun rq32 =>
  (zz72 rq32.1.1 rq32.1.2.1).bind fun rq33 =>
  (zz79 rq32.1.1 rq32.1.2.1).bind fun rq34 =>
  cond (rq33.1.2.1 == rq34.1.2.1)
  ((zz51 big rq33.1.1 rq34.1.1).bind fun rq35 =>
  some (rq35.1, (())))
  (some (false, (())))))))
  ((zz75 big code_0).bind fun rq36 =>
  (zz72 rq36.1.1 rq36.1.2.1).bind fun rq37 =>
  (zz79 rq36.1.1 rq36.1.2.1).bind fun rq38 =>
  cond (rq37.1.2.1 == rq38.1.2.1)
  ((zz51 big rq37.1.1 rq38.1.1).bind fun rq39 =>
  some (rq39.1, (())))
  (some (false, (()))))))))))
  (cond (rq11.1.1 != false)
  (some (false, (())))
  ((zz62 rq2.1).bind fun rq40 =>
  (zz63 rq2.1).bind fun rq41 =>
  cond (rq40.1.2.1 != ((((), rq41.1.2).2).1))
  (some (false, (())))
  (cond (rq40.1.2.1 != ((((), rq3.1.2).2).1))
  (some (false, (())))
  ((zz51 big rq40.1.1 rq41.1.1).bind fun rq42 =>
  cond (!rq42.1)
  (some (false, (())))
  (cond ((((), rq3.1.2).2).1)
  ((zz66 big (5 : Int) [((0 : Int), ((1 : Int), ())), ((1 : Int), ((2 : Int), ())), ((2 : Int), ((4 : Int), ())), ((0 : Int), ((3 : Int), ())), ((3 : Int), ((4 : Int), ()))]).bind fun rq43 =>
  (zz72 rq2.1 rq43.1.1).bind fun rq44 =>
  cond (!((((), rq43.1.2).2).1))
  (some (false, (())))
  (cond (!rq44.1.2.1)
  (some (false, (())))
  ((zz51 big rq44.1.1 rq3.1.1).bind fun rq45 =>
  cond (!rq45.1)
  (some (false, (())))
  (cond ((((), rq6.1.2).2).1)
  ((zz66 big (5 : Int) [((0 : Int), ((1 : Int), ())), ((0 : Int), ((2 : Int), ())), ((0 : Int), ((3 : Int), ())), ((1 : Int), ((4 : Int), ())), ((2 : Int), ((4 : Int), ())), ((3 : Int), ((4 : Int), ()))]).bind fun rq46 =>
  (zz72 rq2.1 rq46.1.1).bind fun rq47 =>
  cond (!((((), rq46.1.2).2).1))
  (some (false, (())))
  (cond (!rq47.1.2.1)
  (some (false, (())))
  ((zz51 big rq47.1.1 rq6.1.1).bind fun rq48 =>
  cond (!rq48.1)
  (some (false, (())))
  ((zz75 big code_0).bind fun rq49 =>
  (zz72 rq49.1.1 rq49.1.2.1).bind fun rq50 =>
  (zz79 rq49.1.1 rq49.1.2.1).bind fun rq51 =>
  cond (rq50.1.2.1 == rq51.1.2.1)
  ((zz51 big rq50.1.1 rq51.1.1).bind fun rq52 =>
  some (rq52.1, (())))
  (some (false, (())))))))
  ((zz75 big code_0).bind fun rq53 =>
  (zz72 rq53.1.1 rq53.1.2.1).bind fun rq54 =>
  (zz79 rq53.1.1 rq53.1.2.1).bind fun rq55 =>
  cond (rq54.1.2.1 == rq55.1.2.1)
  ((zz51 big rq54.1.1 rq55.1.1).bind fun rq56 =>
  some (rq56.1, (())))
  (some (false, (()))))))))
  (cond ((((), rq6.1.2).2).1)
  ((zz66 big (5 : Int) [((0 : Int), ((1 : Int), ())), ((0 : Int), ((2 : Int), ())), ((0 : Int), ((3 : Int), ())), ((1 : Int), ((4 : Int), ())), ((2 : Int), ((4 : Int), ())), ((3 : Int), ((4 : Int), ()))]).bind fun rq57 =>
  (zz72 rq2.1 rq57.1.1).bind fun rq58 =>
  cond (!((((), rq57.1.2).2).1))
  (some (false, (())))
  (cond (!rq58.1.2.1)
  (some (false, (())))
  ((zz51 big rq58.1.1 rq6.1.1).bind fun rq59 =>
  cond (!rq59.1)
  (some (false, (())))
  ((zz75 big code_0).bind fun rq60 =>
  (zz72 rq60.1.1 rq60.1.2.1).bind fun rq61 =>
  (zz79 rq60.1.1 rq60.1.2.1).bind fun rq62 =>
  cond (rq61.1.2.1 == rq62.1.2.1)
  ((zz51 big rq61.1.1 rq62.1.1).bind fun rq63 =>
  some (rq63.1, (())))
  (some (false, (())))))))
  ((zz75 big code_0).bind fun rq64 =>
  (zz72 rq64.1.1 rq64.1.2.1).bind fun rq65 =>
  (zz79 rq64.1.1 rq64.1.2.1).bind fun rq66 =>
  cond (rq65.1.2.1 == rq66.1.2.1)
  ((zz51 big rq65.1.1 rq66.1.1).bind fun rq67 =>
  some (rq67.1, (())))
  (some (false, (())))))))))))
  ((zz62 rq2.1).bind fun rq68 =>
  (zz63 rq2.1).bind fun rq69 =>
  cond (rq68.1.2.1 != ((((), rq69.1.2).2).1))
  (some (false, (())))
  (cond (rq68.1.2.1 != ((((), rq3.1.2).2).1))
  (some (false, (())))
  ((zz51 big rq68.1.1 rq69.1.1).bind fun rq70 =>
  cond (!rq70.1)
  (some (false, (())))
  (cond ((((), rq3.1.2).2).1)
  ((zz66 big (5 : Int) [((0 : Int), ((1 : Int), ())), ((1 : Int), ((2 : Int), ())), ((2 : Int), ((4 : Int), ())), ((0 : Int), ((3 : Int), ())), ((3 : Int), ((4 : Int), ()))]).bind fun rq71 =>
  (zz72 rq2.1 rq71.1.1).bind fun rq72 =>
  cond (!((((), rq71.1.2).2).1))
  (some (false, (())))
  (cond (!rq72.1.2.1)
  (some (false, (())))
  ((zz51 big rq72.1.1 rq3.1.1).bind fun rq73 =>
  cond (!rq73.1)
  (some (false, (())))
  (cond ((((), rq6.1.2).2).1)
  ((zz66 big (5 : Int) [((0 : Int), ((1 : Int), ())), ((0 : Int), ((2 : Int), ())), ((0 : Int), ((3 : Int), ())), ((1 : Int), ((4 : Int), ())), ((2 : Int), ((4 : Int), ())), ((3 : Int), ((4 : Int), ()))]).bind fun rq74 =>
  (zz72 rq2.1 rq74.1.1).bind fun rq75 =>
  cond (!((((), rq74.1.2).2).1))
  (some (false, (())))
  (cond (!rq75.1.2.1)
  (some (false, (())))
  ((zz51 big rq75.1.1 rq6.1.1).bind fun rq76 =>
  cond (!rq76.1)
  (some (false, (())))
  ((zz75 big code_0).bind fun rq77 =>
  (zz72 rq77.1.1 rq77.1.2.1).bind fun rq78 =>
  (zz79 rq77.1.1 rq77.1.2.1).bind fun rq79 =>
  cond (rq78.1.2.1 == rq79.1.2.1)
  ((zz51 big rq78.1.1 rq79.1.1).bind fun rq80 =>
  some (rq80.1, (())))
  (some (false, (())))))))
  ((zz75 big code_0).bind fun rq81 =>
  (zz72 rq81.1.1 rq81.1.2.1).bind fun rq82 =>
  (zz79 rq81.1.1 rq81.1.2.1).bind fun rq83 =>
  cond (rq82.1.2.1 == rq83.1.2.1)
  ((zz51 big rq82.1.1 rq83.1.1).bind fun rq84 =>
  some (rq84.1, (())))
  (some (false, (()))))))))
  (cond ((((), rq6.1.2).2).1)
  ((zz66 big (5 : Int) [((0 : Int), ((1 : Int), ())), ((0 : Int), ((2 : Int), ())), ((0 : Int), ((3 : Int), ())), ((1 : Int), ((4 : Int), ())), ((2 : Int), ((4 : Int), ())), ((3 : Int), ((4 : Int), ()))]).bind fun rq85 =>
  (zz72 rq2.1 rq85.1.1).bind fun rq86 =>
  cond (!((((), rq85.1.2).2).1))
  (some (false, (())))
  (cond (!rq86.1.2.1)
  (some (false, (())))
  ((zz51 big rq86.1.1 rq6.1.1).bind fun rq87 =>
  cond (!rq87.1)
  (some (false, (())))
  ((zz75 big code_0).bind fun rq88 =>
  (zz72 rq88.1.1 rq88.1.2.1).bind fun rq89 =>
  (zz79 rq88.1.1 rq88.1.2.1).bind fun rq90 =>
  cond (rq89.1.2.1 == rq90.1.2.1)
  ((zz51 big rq89.1.1 rq90.1.1).bind fun rq91 =>
  some (rq91.1, (())))
  (some (false, (())))))))
  ((zz75 big code_0).bind fun rq92 =>
  (zz72 rq92.1.1 rq92.1.2.1).bind fun rq93 =>
  (zz79 rq92.1.1 rq92.1.2.1).bind fun rq94 =>
  cond (rq93.1.2.1 == rq94.1.2.1)
  ((zz51 big rq93.1.1 rq94.1.1).bind fun rq95 =>
  some (rq95.1, (())))
  (some (false, (()))))))))))))
  ((zz61 rq2.1).bind fun rq96 =>
  cond (rq96.1.2.1 != rq9.1.2.1)
  (some (false, (())))
  (cond rq9.1.2.1
  (cond (!((((), rq3.1.2).2).1))
  (cond (rq96.1.1 != (!((((), rq6.1.2).2).1)))
  (some (false, (())))
  ((zz62 rq2.1).bind fun rq97 =>
  (zz63 rq2.1).bind fun rq98 =>
  cond (rq97.1.2.1 != ((((), rq98.1.2).2).1))
  (some (false, (())))
  (cond (rq97.1.2.1 != ((((), rq3.1.2).2).1))
  (some (false, (())))
  ((zz51 big rq97.1.1 rq98.1.1).bind fun rq99 =>
  cond (!rq99.1)
  (some (false, (())))
  (cond ((((), rq3.1.2).2).1)
  ((zz66 big (5 : Int) [((0 : Int), ((1 : Int), ())), ((1 : Int), ((2 : Int), ())), ((2 : Int), ((4 : Int), ())), ((0 : Int), ((3 : Int), ())), ((3 : Int), ((4 : Int), ()))]).bind fun rq100 =>
  (zz72 rq2.1 rq100.1.1).bind fun rq101 =>
  cond (!((((), rq100.1.2).2).1))
  (some (false, (())))
  (cond (!rq101.1.2.1)
  (some (false, (())))
  ((zz51 big rq101.1.1 rq3.1.1).bind fun rq102 =>
  cond (!rq102.1)
  (some (false, (())))
  (cond ((((), rq6.1.2).2).1)
  ((zz66 big (5 : Int) [((0 : Int), ((1 : Int), ())), ((0 : Int), ((2 : Int), ())), ((0 : Int), ((3 : Int), ())), ((1 : Int), ((4 : Int), ())), ((2 : Int), ((4 : Int), ())), ((3 : Int), ((4 : Int), ()))]).bind fun rq103 =>
  (zz72 rq2.1 rq103.1.1).bind fun rq104 =>
  cond (!((((), rq103.1.2).2).1))
  (some (false, (())))
  (cond (!rq104.1.2.1)
  (some (false, (())))
  ((zz51 big rq104.1.1 rq6.1.1).bind fun rq105 =>
  cond (!rq105.1)
  (some (false, (())))
  ((zz75 big code_0).bind fun rq106 =>
  (zz72 rq106.1.1 rq106.1.2.1).bind fun rq107 =>
  (zz79 rq106.1.1 rq106.1.2.1).bind fun rq108 =>
  cond (rq107.1.2.1 == rq108.1.2.1)
  ((zz51 big rq107.1.1 rq108.1.1).bind fun rq109 =>
  some (rq109.1, (())))
  (some (false, (())))))))
  ((zz75 big code_0).bind fun rq110 =>
  (zz72 rq110.1.1 rq110.1.2.1).bind fun rq111 =>
  (zz79 rq110.1.1 rq110.1.2.1).bind fun rq112 =>
  cond (rq111.1.2.1 == rq112.1.2.1)
  ((zz51 big rq111.1.1 rq112.1.1).bind fun rq113 =>
  some (rq113.1, (())))
  (some (false, (()))))))))
  (cond ((((), rq6.1.2).2).1)
  ((zz66 big (5 : Int) [((0 : Int), ((1 : Int), ())), ((0 : Int), ((2 : Int), ())), ((0 : Int), ((3 : Int), ())), ((1 : Int), ((4 : Int), ())), ((2 : Int), ((4 : Int), ())), ((3 : Int), ((4 : Int), ()))]).bind fun rq114 =>
  (zz72 rq2.1 rq114.1.1).bind fun rq115 =>
  cond (!((((), rq114.1.2).2).1))
  (some (false, (())))
  (cond (!rq115.1.2.1)
  (some (false, (())))
  ((zz51 big rq115.1.1 rq6.1.1).bind fun rq116 =>
  cond (!rq116.1)
  (some (false, (())))
  ((zz75 big code_0).bind fun rq117 =>
  (zz72 rq117.1.1 rq117.1.2.1).bind fun rq118 =>
  (zz79 rq117.1.1 rq117.1.2.1).bind fun rq119 =>
  cond (rq118.1.2.1 == rq119.1.2.1)
  ((zz51 big rq118.1.1 rq119.1.1).bind fun rq120 =>
  some (rq120.1, (())))
  (some (false, (())))))))
  ((zz75 big code_0).bind fun rq121 =>
  (zz72 rq121.1.1 rq121.1.2.1).bind fun rq122 =>
  (zz79 rq121.1.1 rq121.1.2.1).bind fun rq123 =>
  cond (rq122.1.2.1 == rq123.1.2.1)
  ((zz51 big rq122.1.1 rq123.1.1).bind fun rq124 =>
  some (rq124.1, (())))
  (some (false, (()))))))))))
  (cond (rq96.1.1 != false)
  (some (false, (())))
  ((zz62 rq2.1).bind fun rq125 =>
  (zz63 rq2.1).bind fun rq126 =>
  cond (rq125.1.2.1 != ((((), rq126.1.2).2).1))
  (some (false, (())))
  (cond (rq125.1.2.1 != ((((), rq3.1.2).2).1))
  (some (false, (())))
  ((zz51 big rq125.1.1 rq126.1.1).bind fun rq127 =>
  cond (!rq127.1)
  (some (false, (())))
  (cond ((((), rq3.1.2).2).1)
  ((zz66 big (5 : Int) [((0 : Int), ((1 : Int), ())), ((1 : Int), ((2 : Int), ())), ((2 : Int), ((4 : Int), ())), ((0 : Int), ((3 : Int), ())), ((3 : Int), ((4 : Int), ()))]).bind fun rq128 =>
  (zz72 rq2.1 rq128.1.1).bind fun rq129 =>
  cond (!((((), rq128.1.2).2).1))
  (some (false, (())))
  (cond (!rq129.1.2.1)
  (some (false, (())))
  ((zz51 big rq129.1.1 rq3.1.1).bind fun rq130 =>
  cond (!rq130.1)
  (some (false, (())))
  (cond ((((), rq6.1.2).2).1)
  ((zz66 big (5 : Int) [((0 : Int), ((1 : Int), ())), ((0 : Int), ((2 : Int), ())), ((0 : Int), ((3 : Int), ())), ((1 : Int), ((4 : Int), ())), ((2 : Int), ((4 : Int), ())), ((3 : Int), ((4 : Int), ()))]).bind fun rq131 =>
  (zz72 rq2.1 rq131.1.1).bind fun rq132 =>
  cond (!((((), rq131.1.2).2).1))
  (some (false, (())))
  (cond (!rq132.1.2.1)
  (some (false, (())))
  ((zz51 big rq132.1.1 rq6.1.1).bind fun rq133 =>
  cond (!rq133.1)
  (some (false, (())))
  ((zz75 big code_0).bind fun rq134 =>
  (zz72 rq134.1.1 rq134.1.2.1).bind fun rq135 =>
  (zz79 rq134.1.1 rq134.1.2.1).bind fun rq136 =>
  cond (rq135.1.2.1 == rq136.1.2.1)
  ((zz51 big rq135.1.1 rq136.1.1).bind fun rq137 =>
  some (rq137.1, (())))
  (some (false, (())))))))
  ((zz75 big code_0).bind fun rq138 =>
  (zz72 rq138.1.1 rq138.1.2.1).bind fun rq139 =>
  (zz79 rq138.1.1 rq138.1.2.1).bind fun rq140 =>
  cond (rq139.1.2.1 == rq140.1.2.1)
  ((zz51 big rq139.1.1 rq140.1.1).bind fun rq141 =>
  some (rq141.1, (())))
  (some (false, (()))))))))
  (cond ((((), rq6.1.2).2).1)
  ((zz66 big (5 : Int) [((0 : Int), ((1 : Int), ())), ((0 : Int), ((2 : Int), ())), ((0 : Int), ((3 : Int), ())), ((1 : Int), ((4 : Int), ())), ((2 : Int), ((4 : Int), ())), ((3 : Int), ((4 : Int), ()))]).bind fun rq142 =>
  (zz72 rq2.1 rq142.1.1).bind fun rq143 =>
  cond (!((((), rq142.1.2).2).1))
  (some (false, (())))
  (cond (!rq143.1.2.1)
  (some (false, (())))
  ((zz51 big rq143.1.1 rq6.1.1).bind fun rq144 =>
  cond (!rq144.1)
  (some (false, (())))
  ((zz75 big code_0).bind fun rq145 =>
  (zz72 rq145.1.1 rq145.1.2.1).bind fun rq146 =>
  (zz79 rq145.1.1 rq145.1.2.1).bind fun rq147 =>
  cond (rq146.1.2.1 == rq147.1.2.1)
  ((zz51 big rq146.1.1 rq147.1.1).bind fun rq148 =>
  some (rq148.1, (())))
  (some (false, (())))))))
  ((zz75 big code_0).bind fun rq149 =>
  (zz72 rq149.1.1 rq149.1.2.1).bind fun rq150 =>
  (zz79 rq149.1.1 rq149.1.2.1).bind fun rq151 =>
  cond (rq150.1.2.1 == rq151.1.2.1)
  ((zz51 big rq150.1.1 rq151.1.1).bind fun rq152 =>
  some (rq152.1, (())))
  (some (false, (())))))))))))
  ((zz62 rq2.1).bind fun rq153 =>
  (zz63 rq2.1).bind fun rq154 =>
  cond (rq153.1.2.1 != ((((), rq154.1.2).2).1))
  (some (false, (())))
  (cond (rq153.1.2.1 != ((((), rq3.1.2).2).1))
  (some (false, (())))
  ((zz51 big rq153.1.1 rq154.1.1).bind fun rq155 =>
  cond (!rq155.1)
  (some (false, (())))
  (cond ((((), rq3.1.2).2).1)
  ((zz66 big (5 : Int) [((0 : Int), ((1 : Int), ())), ((1 : Int), ((2 : Int), ())), ((2 : Int), ((4 : Int), ())), ((0 : Int), ((3 : Int), ())), ((3 : Int), ((4 : Int), ()))]).bind fun rq156 =>
  (zz72 rq2.1 rq156.1.1).bind fun rq157 =>
  cond (!((((), rq156.1.2).2).1))
  (some (false, (())))
  (cond (!rq157.1.2.1)
  (some (false, (())))
  ((zz51 big rq157.1.1 rq3.1.1).bind fun rq158 =>
  cond (!rq158.1)
  (some (false, (())))
  (cond ((((), rq6.1.2).2).1)
  ((zz66 big (5 : Int) [((0 : Int), ((1 : Int), ())), ((0 : Int), ((2 : Int), ())), ((0 : Int), ((3 : Int), ())), ((1 : Int), ((4 : Int), ())), ((2 : Int), ((4 : Int), ())), ((3 : Int), ((4 : Int), ()))]).bind fun rq159 =>
  (zz72 rq2.1 rq159.1.1).bind fun rq160 =>
  cond (!((((), rq159.1.2).2).1))
  (some (false, (())))
  (cond (!rq160.1.2.1)
  (some (false, (())))
  ((zz51 big rq160.1.1 rq6.1.1).bind fun rq161 =>
  cond (!rq161.1)
  (some (false, (())))
  ((zz75 big code_0).bind fun rq162 =>
  (zz72 rq162.1.1 rq162.1.2.1).bind fun rq163 =>
  (zz79 rq162.1.1 rq162.1.2.1).bind fun rq164 =>
  cond (rq163.1.2.1 == rq164.1.2.1)
  ((zz51 big rq163.1.1 rq164.1.1).bind fun rq165 =>
  some (rq165.1, (())))
  (some (false, (())))))))
  ((zz75 big code_0).bind fun rq166 =>
  (zz72 rq166.1.1 rq166.1.2.1).bind fun rq167 =>
  (zz79 rq166.1.1 rq166.1.2.1).bind fun rq168 =>
  cond (rq167.1.2.1 == rq168.1.2.1)
  ((zz51 big rq167.1.1 rq168.1.1).bind fun rq169 =>
  some (rq169.1, (())))
  (some (false, (()))))))))
  (cond ((((), rq6.1.2).2).1)
  ((zz66 big (5 : Int) [((0 : Int), ((1 : Int), ())), ((0 : Int), ((2 : Int), ())), ((0 : Int), ((3 : Int), ())), ((1 : Int), ((4 : Int), ())), ((2 : Int), ((4 : Int), ())), ((3 : Int), ((4 : Int), ()))]).bind fun rq170 =>
  (zz72 rq2.1 rq170.1.1).bind fun rq171 =>
  cond (!((((), rq170.1.2).2).1))
  (some (false, (())))
  (cond (!rq171.1.2.1)
  (some (false, (())))
  ((zz51 big rq171.1.1 rq6.1.1).bind fun rq172 =>
  cond (!rq172.1)
  (some (false, (())))
  ((zz75 big code_0).bind fun rq173 =>
  (zz72 rq173.1.1 rq173.1.2.1).bind fun rq174 =>
  (zz79 rq173.1.1 rq173.1.2.1).bind fun rq175 =>
  cond (rq174.1.2.1 == rq175.1.2.1)
  ((zz51 big rq174.1.1 rq175.1.1).bind fun rq176 =>
  some (rq176.1, (())))
  (some (false, (())))))))
  ((zz75 big code_0).bind fun rq177 =>
  (zz72 rq177.1.1 rq177.1.2.1).bind fun rq178 =>
  (zz79 rq177.1.1 rq177.1.2.1).bind fun rq179 =>
  cond (rq178.1.2.1 == rq179.1.2.1)
  ((zz51 big rq178.1.1 rq179.1.1).bind fun rq180 =>
  some (rq180.1, (())))
  (some (false, (()))))))))))))))))))
def laws_FnPentagons (code_0 : Y4) : Z1 := laws_FnPentagons_s code_0
def S_laws_FnPentagons : Sig := { a := (.pair Q15 .unit), md := [0], mf := [], m := .unit, r := .bool, rf := .i, f := fun x => laws_FnPentagons x.1 }
def laws_FnPentagons_c_j33 (code0 : Y4) : Z1 :=
  (zz75 big code0).bind fun rq52 =>
  (zz72 rq52.1.1 rq52.1.2.1).bind fun rq53 =>
  (zz79 rq52.1.1 rq52.1.2.1).bind fun rq54 =>
  cond (rq53.1.2.1 == rq54.1.2.1)
  ((zz51 big rq53.1.1 rq54.1.1).bind fun rq55 =>
  some (rq55.1, (())))
  (some (false, (())))
def laws_FnPentagons_c_j28 (J33 : Y4 → Z1) (code0 : Y4) (p3 : Y2) (three8 : Y4) (fine9 : Bool) : Z1 :=
  cond fine9
  ((zz66 big (5 : Int) [((0 : Int), ((1 : Int), ())), ((0 : Int), ((2 : Int), ())), ((0 : Int), ((3 : Int), ())), ((1 : Int), ((4 : Int), ())), ((2 : Int), ((4 : Int), ())), ((3 : Int), ((4 : Int), ()))]).bind fun rq49 =>
  (zz72 p3 rq49.1.1).bind fun rq50 =>
  cond (!((((), rq49.1.2).2).1))
  (some (false, (())))
  (cond (!rq50.1.2.1)
  (some (false, (())))
  ((zz51 big rq50.1.1 three8).bind fun rq51 =>
  cond (!rq51.1)
  (some (false, (())))
  (J33 code0))))
  (J33 code0)
def laws_FnPentagons_c_s (J28 : Y4 → Y2 → Y4 → Bool → Z1) (code_0 : Y4) : Z1 :=
  (zz0 code_0).bind fun rq1 =>
  cond rq1.1
  (some (true, (())))
  ((zz21 code_0).bind fun rq2 =>
  (zz39 rq2.1).bind fun rq3 =>
  (zz50 big rq2.1).bind fun rq4 =>
  cond (((((), rq3.1.2).2).1) != ((((), rq4.1.2).2).1))
  (some (false, (())))
  ((zz51 big rq3.1.1 rq4.1.1).bind fun rq5 =>
  cond (!rq5.1)
  (some (false, (())))
  ((zz54 rq2.1).bind fun rq6 =>
  (zz55 big rq2.1).bind fun rq7 =>
  cond (((((), rq6.1.2).2).1) != ((((), rq7.1.2).2).1))
  (some (false, (())))
  ((zz51 big rq6.1.1 rq7.1.1).bind fun rq8 =>
  cond (!rq8.1)
  (some (false, (())))
  ((zz57 rq2.1).bind fun rq9 =>
  (zz59 rq2.1).bind fun rq10 =>
  cond (rq9.1.1 != rq10.1.1)
  (some (false, (())))
  (cond (rq9.1.2.1 != rq10.1.2.1)
  (some (false, (())))
  (cond rq9.1.2.1
  (cond (rq9.1.1 == ((((), rq3.1.2).2).1))
  (some (false, (())))
  ((zz61 rq2.1).bind fun rq11 =>
  cond (rq11.1.2.1 != rq9.1.2.1)
  (some (false, (())))
  (cond rq9.1.2.1
  (cond (!((((), rq3.1.2).2).1))
  (cond (rq11.1.1 != (!((((), rq6.1.2).2).1)))
  (some (false, (())))
  ((zz62 rq2.1).bind fun rq12 =>
  (zz63 rq2.1).bind fun rq13 =>
  cond (rq12.1.2.1 != ((((), rq13.1.2).2).1))
  (some (false, (())))
  (cond (rq12.1.2.1 != ((((), rq3.1.2).2).1))
  (some (false, (())))
  ((zz51 big rq12.1.1 rq13.1.1).bind fun rq14 =>
  cond (!rq14.1)
  (some (false, (())))
  (cond ((((), rq3.1.2).2).1)
  ((zz66 big (5 : Int) [((0 : Int), ((1 : Int), ())), ((1 : Int), ((2 : Int), ())), ((2 : Int), ((4 : Int), ())), ((0 : Int), ((3 : Int), ())), ((3 : Int), ((4 : Int), ()))]).bind fun rq15 =>
  (zz72 rq2.1 rq15.1.1).bind fun rq16 =>
  cond (!((((), rq15.1.2).2).1))
  (some (false, (())))
  (cond (!rq16.1.2.1)
  (some (false, (())))
  ((zz51 big rq16.1.1 rq3.1.1).bind fun rq17 =>
  cond (!rq17.1)
  (some (false, (())))
  (J28 code_0 rq2.1 rq6.1.1 ((((), rq6.1.2).2).1)))))
  (J28 code_0 rq2.1 rq6.1.1 ((((), rq6.1.2).2).1)))))))
  (cond (rq11.1.1 != false)
  (some (false, (())))
  ((zz62 rq2.1).bind fun rq18 =>
  (zz63 rq2.1).bind fun rq19 =>
  cond (rq18.1.2.1 != ((((), rq19.1.2).2).1))
  (some (false, (())))
  (cond (rq18.1.2.1 != ((((), rq3.1.2).2).1))
  (some (false, (())))
  ((zz51 big rq18.1.1 rq19.1.1).bind fun rq20 =>
  cond (!rq20.1)
  (some (false, (())))
  (cond ((((), rq3.1.2).2).1)
  ((zz66 big (5 : Int) [((0 : Int), ((1 : Int), ())), ((1 : Int), ((2 : Int), ())), ((2 : Int), ((4 : Int), ())), ((0 : Int), ((3 : Int), ())), ((3 : Int), ((4 : Int), ()))]).bind fun rq21 =>
  (zz72 rq2.1 rq21.1.1).bind fun rq22 =>
  cond (!((((), rq21.1.2).2).1))
  (some (false, (())))
  (cond (!rq22.1.2.1)
  (some (false, (())))
  ((zz51 big rq22.1.1 rq3.1.1).bind fun rq23 =>
  cond (!rq23.1)
  (some (false, (())))
  (J28 code_0 rq2.1 rq6.1.1 ((((), rq6.1.2).2).1)))))
  (J28 code_0 rq2.1 rq6.1.1 ((((), rq6.1.2).2).1))))))))
  ((zz62 rq2.1).bind fun rq24 =>
  (zz63 rq2.1).bind fun rq25 =>
  cond (rq24.1.2.1 != ((((), rq25.1.2).2).1))
  (some (false, (())))
  (cond (rq24.1.2.1 != ((((), rq3.1.2).2).1))
  (some (false, (())))
  ((zz51 big rq24.1.1 rq25.1.1).bind fun rq26 =>
  cond (!rq26.1)
  (some (false, (())))
  (cond ((((), rq3.1.2).2).1)
  ((zz66 big (5 : Int) [((0 : Int), ((1 : Int), ())), ((1 : Int), ((2 : Int), ())), ((2 : Int), ((4 : Int), ())), ((0 : Int), ((3 : Int), ())), ((3 : Int), ((4 : Int), ()))]).bind fun rq27 =>
  (zz72 rq2.1 rq27.1.1).bind fun rq28 =>
  cond (!((((), rq27.1.2).2).1))
  (some (false, (())))
  (cond (!rq28.1.2.1)
  (some (false, (())))
  ((zz51 big rq28.1.1 rq3.1.1).bind fun rq29 =>
  cond (!rq29.1)
  (some (false, (())))
  (J28 code_0 rq2.1 rq6.1.1 ((((), rq6.1.2).2).1)))))
  (J28 code_0 rq2.1 rq6.1.1 ((((), rq6.1.2).2).1)))))))))
  ((zz61 rq2.1).bind fun rq30 =>
  cond (rq30.1.2.1 != rq9.1.2.1)
  (some (false, (())))
  (cond rq9.1.2.1
  (cond (!((((), rq3.1.2).2).1))
  (cond (rq30.1.1 != (!((((), rq6.1.2).2).1)))
  (some (false, (())))
  ((zz62 rq2.1).bind fun rq31 =>
  (zz63 rq2.1).bind fun rq32 =>
  cond (rq31.1.2.1 != ((((), rq32.1.2).2).1))
  (some (false, (())))
  (cond (rq31.1.2.1 != ((((), rq3.1.2).2).1))
  (some (false, (())))
  ((zz51 big rq31.1.1 rq32.1.1).bind fun rq33 =>
  cond (!rq33.1)
  (some (false, (())))
  (cond ((((), rq3.1.2).2).1)
  ((zz66 big (5 : Int) [((0 : Int), ((1 : Int), ())), ((1 : Int), ((2 : Int), ())), ((2 : Int), ((4 : Int), ())), ((0 : Int), ((3 : Int), ())), ((3 : Int), ((4 : Int), ()))]).bind fun rq34 =>
  (zz72 rq2.1 rq34.1.1).bind fun rq35 =>
  cond (!((((), rq34.1.2).2).1))
  (some (false, (())))
  (cond (!rq35.1.2.1)
  (some (false, (())))
  ((zz51 big rq35.1.1 rq3.1.1).bind fun rq36 =>
  cond (!rq36.1)
  (some (false, (())))
  (J28 code_0 rq2.1 rq6.1.1 ((((), rq6.1.2).2).1)))))
  (J28 code_0 rq2.1 rq6.1.1 ((((), rq6.1.2).2).1)))))))
  (cond (rq30.1.1 != false)
  (some (false, (())))
  ((zz62 rq2.1).bind fun rq37 =>
  (zz63 rq2.1).bind fun rq38 =>
  cond (rq37.1.2.1 != ((((), rq38.1.2).2).1))
  (some (false, (())))
  (cond (rq37.1.2.1 != ((((), rq3.1.2).2).1))
  (some (false, (())))
  ((zz51 big rq37.1.1 rq38.1.1).bind fun rq39 =>
  cond (!rq39.1)
  (some (false, (())))
  (cond ((((), rq3.1.2).2).1)
  ((zz66 big (5 : Int) [((0 : Int), ((1 : Int), ())), ((1 : Int), ((2 : Int), ())), ((2 : Int), ((4 : Int), ())), ((0 : Int), ((3 : Int), ())), ((3 : Int), ((4 : Int), ()))]).bind fun rq40 =>
  (zz72 rq2.1 rq40.1.1).bind fun rq41 =>
  cond (!((((), rq40.1.2).2).1))
  (some (false, (())))
  (cond (!rq41.1.2.1)
  (some (false, (())))
  ((zz51 big rq41.1.1 rq3.1.1).bind fun rq42 =>
  cond (!rq42.1)
  (some (false, (())))
  (J28 code_0 rq2.1 rq6.1.1 ((((), rq6.1.2).2).1)))))
  (J28 code_0 rq2.1 rq6.1.1 ((((), rq6.1.2).2).1))))))))
  ((zz62 rq2.1).bind fun rq43 =>
  (zz63 rq2.1).bind fun rq44 =>
  cond (rq43.1.2.1 != ((((), rq44.1.2).2).1))
  (some (false, (())))
  (cond (rq43.1.2.1 != ((((), rq3.1.2).2).1))
  (some (false, (())))
  ((zz51 big rq43.1.1 rq44.1.1).bind fun rq45 =>
  cond (!rq45.1)
  (some (false, (())))
  (cond ((((), rq3.1.2).2).1)
  ((zz66 big (5 : Int) [((0 : Int), ((1 : Int), ())), ((1 : Int), ((2 : Int), ())), ((2 : Int), ((4 : Int), ())), ((0 : Int), ((3 : Int), ())), ((3 : Int), ((4 : Int), ()))]).bind fun rq46 =>
  (zz72 rq2.1 rq46.1.1).bind fun rq47 =>
  cond (!((((), rq46.1.2).2).1))
  (some (false, (())))
  (cond (!rq47.1.2.1)
  (some (false, (())))
  ((zz51 big rq47.1.1 rq3.1.1).bind fun rq48 =>
  cond (!rq48.1)
  (some (false, (())))
  (J28 code_0 rq2.1 rq6.1.1 ((((), rq6.1.2).2).1)))))
  (J28 code_0 rq2.1 rq6.1.1 ((((), rq6.1.2).2).1)))))))))))))))
def laws_FnPentagons_c_J33 (N : Nat) (code0 : Y4) : Z1 := gate true N (laws_FnPentagons_c_j33 code0)
def laws_FnPentagons_c_J28 (N : Nat) (code0 : Y4) (p3 : Y2) (three8 : Y4) (fine9 : Bool) : Z1 := gate true N (laws_FnPentagons_c_j28 (laws_FnPentagons_c_J33 N) code0 p3 three8 fine9)
def laws_FnPentagons_c (N : Nat) (code_0 : Y4) : Z1 := laws_FnPentagons_c_s (laws_FnPentagons_c_J28 N) code_0
def A_laws_FnPentagons_c : Cfg := mkCfg tab [(5, S_zz0), (6, S_zz21), (7, S_zz39), (8, S_zz50), (9, S_zz51), (10, S_zz54), (11, S_zz55), (12, S_zz57), (13, S_zz59), (14, S_zz61), (15, S_zz62), (16, S_zz63), (17, S_zz66), (18, S_zz72), (19, S_zz75), (20, S_zz79)] [(57, [.as Q15 .i, .drop, .drop, .as Q4 P5, .drop, .drop, .drop, .drop, .as Q7 P5, .as .bool .i]), (67, [.as Q15 .i]), (500028, []), (500033, [])]
noncomputable abbrev laws_FnPentagons_c_z : Ex → St → Z1 := finish (A_laws_FnPentagons_c) S_laws_FnPentagons Try.f3.results.toList
noncomputable abbrev laws_FnPentagons_c_jK28 (N : Nat) : Ex → St → Z1 := laws_FnPentagons_c_z
noncomputable def laws_FnPentagons_c_Q28 (N : Nat) (code0 : Y4) (p3 : Y2) (three8 : Y4) (fine9 : Bool) : Z1 := gated true N (run (A_laws_FnPentagons_c) N (codeAt Try.f3 [1, 1, 1, 1, 1, 1, 1, 1, 1, 1, 1, 1, 1])) ([.val Q15 .i code0, .u, .u, W2 p3, .u, .u, .u, .u, W3 three8, .val .bool .i fine9] ++ List.replicate 223 .u) (laws_FnPentagons_c_jK28 N)
noncomputable abbrev laws_FnPentagons_c_jK33 (N : Nat) : Ex → St → Z1 := laws_FnPentagons_c_z
noncomputable def laws_FnPentagons_c_Q33 (N : Nat) (code0 : Y4) : Z1 := gated true N (run (A_laws_FnPentagons_c) N (codeAt Try.f3 [1, 1, 1, 1, 1, 1, 1, 1, 1, 1, 1, 1, 1, 1])) ([.val Q15 .i code0] ++ List.replicate 232 .u) (laws_FnPentagons_c_jK33 N)
theorem laws_FnPentagons_c_jr33 (N : Nat) (code0 : Y4) : run (A_laws_FnPentagons_c) N (codeAt Try.f3 [1, 1, 1, 1, 1, 1, 1, 1, 1, 1, 1, 1, 1, 1]) ([.val Q15 .i code0] ++ List.replicate 232 .u) (laws_FnPentagons_c_jK33 N) = laws_FnPentagons_c_j33 code0 := by kernel_rfl
theorem laws_FnPentagons_c_inJ33 (N : Nat) : laws_FnPentagons_c_Q33 N = laws_FnPentagons_c_J33 N := by
 funext code0
  exact congrArg (gate true N) ((laws_FnPentagons_c_jr33 N code0).trans (show laws_FnPentagons_c_j33 code0 = laws_FnPentagons_c_j33 code0 from rfl))
theorem laws_FnPentagons_c_jr28 (N : Nat) (code0 : Y4) (p3 : Y2) (three8 : Y4) (fine9 : Bool) : run (A_laws_FnPentagons_c) N (codeAt Try.f3 [1, 1, 1, 1, 1, 1, 1, 1, 1, 1, 1, 1, 1]) ([.val Q15 .i code0, .u, .u, W2 p3, .u, .u, .u, .u, W3 three8, .val .bool .i fine9] ++ List.replicate 223 .u) (laws_FnPentagons_c_jK28 N) = laws_FnPentagons_c_j28 (laws_FnPentagons_c_Q33 N) code0 p3 three8 fine9 := by kernel_rfl
theorem laws_FnPentagons_c_inJ28 (N : Nat) : laws_FnPentagons_c_Q28 N = laws_FnPentagons_c_J28 N := by
 funext code0 p3 three8 fine9
  exact congrArg (gate true N) ((laws_FnPentagons_c_jr28 N code0 p3 three8 fine9).trans (show laws_FnPentagons_c_j28 (laws_FnPentagons_c_Q33 N) code0 p3 three8 fine9 = laws_FnPentagons_c_j28 (laws_FnPentagons_c_J33 N) code0 p3 three8 fine9 from by rw [laws_FnPentagons_c_inJ33 N]))
theorem run0_laws_FnPentagons_c (N : Nat) (x : (S_laws_FnPentagons).a.den) : runF (A_laws_FnPentagons_c) N Try.f3 S_laws_FnPentagons x = (laws_FnPentagons_c_s (laws_FnPentagons_c_Q28 N) x.1) := by kernel_rfl
theorem run_laws_FnPentagons_c (N : Nat) (x : (S_laws_FnPentagons).a.den) : runF (A_laws_FnPentagons_c) N Try.f3 S_laws_FnPentagons x = laws_FnPentagons_c N x.1 := by
  refine (run0_laws_FnPentagons_c N x).trans ?_
  rw [laws_FnPentagons_c_inJ28 N]
  rfl
theorem run_laws_FnPentagons (x : (S_laws_FnPentagons).a.den) : runF (A_laws_FnPentagons_c) big Try.f3 S_laws_FnPentagons x = laws_FnPentagons x.1 := (run_laws_FnPentagons_c big x).trans (by kernel_rfl)
theorem fn_laws_FnPentagons : FnOk Try.prog 3 := ⟨_, Try.func3, by kernel_rfl, by kernel_rfl⟩
theorem good_laws_FnPentagons : Gx.Good Try.prog 3 S_laws_FnPentagons := vaa Try.func3 (of_decide_eq_true (by kernel_rfl)) fun x r h => ⟨A_laws_FnPentagons_c, big, vad tabOk, vab (show SigsOk Try.prog [(5, S_zz0), (6, S_zz21), (7, S_zz39), (8, S_zz50), (9, S_zz51), (10, S_zz54), (11, S_zz55), (12, S_zz57), (13, S_zz59), (14, S_zz61), (15, S_zz62), (16, S_zz63), (17, S_zz66), (18, S_zz72), (19, S_zz75), (20, S_zz79)] from ⟨⟨fn_zz0, good_zz0⟩, ⟨fn_zz21, good_zz21⟩, ⟨fn_zz39, good_zz39⟩, ⟨fn_zz50, good_zz50⟩, ⟨fn_zz51, good_zz51⟩, ⟨fn_zz54, good_zz54⟩, ⟨fn_zz55, good_zz55⟩, ⟨fn_zz57, good_zz57⟩, ⟨fn_zz59, good_zz59⟩, ⟨fn_zz61, good_zz61⟩, ⟨fn_zz62, good_zz62⟩, ⟨fn_zz63, good_zz63⟩, ⟨fn_zz66, good_zz66⟩, ⟨fn_zz72, good_zz72⟩, ⟨fn_zz75, good_zz75⟩, ⟨fn_zz79, good_zz79⟩, trivial⟩), (run_laws_FnPentagons x).trans h⟩
end Go.Proofs.Yteanfidobhpchaa
