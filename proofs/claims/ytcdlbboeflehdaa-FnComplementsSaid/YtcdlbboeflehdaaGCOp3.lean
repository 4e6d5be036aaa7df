import Derived.Test.YtcdlbboeflehdaaGCOp2
set_option maxRecDepth 100000
set_option linter.unusedVariables false
namespace Go.Proofs.Ytcdlbboeflehdaa
open Go Go.Gx Go.Proofs
def vll (rec : (Y1 × Z1) → Y4 → Int → Int → Z5) (k : Y4 → Z5) (so1 : (Y1 × Z1)) (list5 : Y4) (t9 t10 : Int) : Z5 :=
  cond (decide (t10 < t9))
  ((zz39 t10 so1.1 so1.2.1 so1.2.2.1).bind fun rq1 =>
  cond rq1.1
  ((appI list5 [t10]).bind fun xq2 =>
  rec so1 xq2 t9 (IntKind.i64.wrap (t10 + (1 : Int))))
  (rec so1 list5 t9 (IntKind.i64.wrap (t10 + (1 : Int)))))
  (k list5)
def vjk (list5 : Y4) : Z5 :=
  some (list5, (()))
def vaqg (L3 : (Y1 × Z1) → Y4 → Int → Int → Z5) (o_0 : Y5) (so_1 : (Y1 × Z1)) : Z5 :=
  L3 so_1 [] (o_0.length : Int) (0 : Int)
def vlz (N : Nat) (k : Y4 → Z5) : Nat → (Y1 × Z1) → Y4 → Int → Int → Z5
  | 0, _, _, _, _ => none
  | m + 1, so1, list5, t9, t10 => vll (vlz N k m) k so1 list5 t9 t10
def vale (N : Nat) (so1 : (Y1 × Z1)) (list5 : Y4) (t9 t10 : Int) : Z5 := vlz N (vjk) N so1 list5 t9 t10
def zz40 (N : Nat) (o_0 : Y5) (so_1 : (Y1 × Z1)) : Z5 := vaqg (vale N) o_0 so_1
def S_zz40 : Sig := { a := (.pair (.sl (.sl .bool)) (.pair (.clo 112 0 (.pair (.ptr (.opt (.pair (.sl (.sl .bool)) (.pair (.sl (.sl I)) (.pair (.sl (.sl I)) .unit))))) (.pair (.ptr I) (.pair (.ptr I) .unit)))) .unit)), md := [0, 0], mf := [], m := .unit, r := (.sl I), rf := (.o .i), f := fun x => zz40 big x.1 x.2.1 }
def A_zz40 : Cfg := mkCfg tab [(112, S_zz39)] [(6, [.drop, .as (.clo 112 0 (.pair (.ptr (.opt (.pair (.sl (.sl .bool)) (.pair (.sl (.sl I)) (.pair (.sl (.sl I)) .unit))))) (.pair (.ptr I) (.pair (.ptr I) .unit)))) .i, .drop, .drop, .drop, .as (.sl I) (.o .i), .drop, .drop, .drop, .as I .i, .as I .i]), (17, [.drop, .drop, .drop, .drop, .drop, .as (.sl I) (.o .i)])]
noncomputable def vlr (N n : Nat) (K : Ex → St → Z5) (so1 : (Y1 × Z1)) (list5 : Y4) (t9 t10 : Int) : Z5 := iter ((A_zz40).shape 6) (run (A_zz40) N (codeAt Try.f62 [1, 1, 0, 1, 0, 0])) n ([.u, .val (.clo 112 0 (.pair (.ptr (.opt (.pair (.sl (.sl .bool)) (.pair (.sl (.sl I)) (.pair (.sl (.sl I)) .unit))))) (.pair (.ptr I) (.pair (.ptr I) .unit)))) .i so1, .u, .u, .u, .val (.sl I) (.o .i) list5, .u, .u, .u, .val I .i t9, .val I .i t10] ++ List.replicate 11 .u) K
noncomputable abbrev varu : Ex → St → Z5 := finish (A_zz40) S_zz40 Try.f62.results.toList
noncomputable abbrev vul (kX : St → Z5) : Y4 → Z5 := fun (list5 : Y4) => kX ([.u, .u, .u, .u, .u, .val (.sl I) (.o .i) list5] ++ List.replicate 16 .u)
noncomputable abbrev vyk (kX : St → Z5) (kO : Nat → St → Z5) : Ex → St → Z5 := exK varu 0 ((A_zz40).shape 17) kX kO
theorem vbbb (N m : Nat) (kX : St → Z5) (kO : Nat → St → Z5) (so1 : (Y1 × Z1)) (list5 : Y4) (t9 t10 : Int) : vlr N (m + 1) (vyk kX kO) so1 list5 t9 t10 = vll (vlr N m (vyk kX kO)) (vul kX) so1 list5 t9 t10 := by kernel_rfl
theorem vafk (N : Nat) (kX : St → Z5) (kO : Nat → St → Z5) : ∀ (n : Nat) (so1 : (Y1 × Z1)) (list5 : Y4) (t9 t10 : Int), vlr N n (vyk kX kO) so1 list5 t9 t10 = vlz N (vul kX) n so1 list5 t9 t10
  | 0, _, _, _, _ => rfl
  | m + 1, so1, list5, t9, t10 => by
    have hrec : vlr N m (vyk kX kO) = (vlz N (vul kX) m) := (funext fun so1 => (funext fun list5 => (funext fun t9 => (funext fun t10 => vafk N kX kO m so1 list5 t9 t10))))
    refine (vbbb N m kX kO so1 list5 t9 t10).trans ?_
    rw [hrec]
    rfl
noncomputable abbrev valw (N : Nat) : Ex → St → Z5 := (blockK 0 (seqK ((A_zz40).shape 17) (gated ((A_zz40).shape 500008).isSome N (run (A_zz40) N (codeAt Try.f62 [1, 1, 1]))) varu))
noncomputable abbrev vahe (N : Nat) : St → Z5 := fun st' => run (A_zz40) N (codeAt Try.f62 [1, 1, 1]) st' varu
theorem vaxy (N : Nat) (list5 : Y4) : vul (vahe N) list5 = vjk list5 := by kernel_rfl
theorem vbjd (N : Nat) (so1 : (Y1 × Z1)) (list5 : Y4) (t9 t10 : Int) : vlr N N (valw N) so1 list5 t9 t10 = vale N so1 list5 t9 t10 :=
  have h : vul (vahe N) = (vjk) := (funext fun list5 => vaxy N list5)
  ((vad (fun st => by kernel_rfl) (fun st => by kernel_rfl)).trans (vafk N (vahe N) (fun j st => (valw N) (.exit j) st) N so1 list5 t9 t10)).trans (congrArg (fun k => vlz N k N so1 list5 t9 t10) h)
theorem run0_zz40 (N : Nat) (x : (S_zz40).a.den) : runF (A_zz40) N Try.f62 S_zz40 x = (vaqg (vlr N N (valw N)) x.1 x.2.1) := by kernel_rfl
theorem run_zz40 (N : Nat) (x : (S_zz40).a.den) : runF (A_zz40) N Try.f62 S_zz40 x = zz40 N x.1 x.2.1 := by
  refine (run0_zz40 N x).trans ?_
  rw [(funext fun so1 => (funext fun list5 => (funext fun t9 => (funext fun t10 => vbjd N so1 list5 t9 t10))))]
  rfl
theorem fn_zz40 : FnOk Try.prog 62 := ⟨_, Try.func62, by kernel_rfl, by kernel_rfl⟩
theorem good_zz40 : Gx.Good Try.prog 62 S_zz40 := vaa Try.func62 (of_decide_eq_true (by kernel_rfl)) fun x r h => ⟨A_zz40, big, vac tabOk, vab (show SigsOk Try.prog [(112, S_zz39)] from ⟨⟨fn_zz39, good_zz39⟩, trivial⟩), (run_zz40 big x).trans h⟩
def vbfr (o_0 : Y5) (so_1 : (Y1 × Z1)) : Z0 :=
  (zz40 big o_0 so_1).bind fun rq1 =>
  some (decide ((rq1.1.length : Int) = (0 : Int)), (()))
def zz41 (o_0 : Y5) (so_1 : (Y1 × Z1)) : Z0 := vbfr o_0 so_1
def S_zz41 : Sig := { a := (.pair (.sl (.sl .bool)) (.pair (.clo 112 0 (.pair (.ptr (.opt (.pair (.sl (.sl .bool)) (.pair (.sl (.sl I)) (.pair (.sl (.sl I)) .unit))))) (.pair (.ptr I) (.pair (.ptr I) .unit)))) .unit)), md := [0, 0], mf := [], m := .unit, r := .bool, rf := .i, f := fun x => zz41 x.1 x.2.1 }
def A_zz41 : Cfg := mkCfg tab [(62, S_zz40)] []
theorem run_zz41 (N : Nat) (x : (S_zz41).a.den) : runF (A_zz41) N Try.f71 S_zz41 x = zz41 x.1 x.2.1 := by kernel_rfl
theorem fn_zz41 : FnOk Try.prog 71 := ⟨_, Try.func71, by kernel_rfl, by kernel_rfl⟩
theorem good_zz41 : Gx.Good Try.prog 71 S_zz41 := vaa Try.func71 (of_decide_eq_true (by kernel_rfl)) fun x r h => ⟨A_zz41, big, vac tabOk, vab (show SigsOk Try.prog [(62, S_zz40)] from ⟨⟨fn_zz40, good_zz40⟩, trivial⟩), (run_zz41 big x).trans h⟩
def vps (rec : Y1 → Int → Y4 → Int → Int → Z0) (k : Z0) (l2 : Y1) (x3 : Int) (t9 : Y4) (t10 t11 : Int) : Z0 :=
  cond (decide (t11 < t10))
  ((atI t9 t11).bind fun _ =>
  (t9[t11.toNat]?).bind fun xq2 =>
  (l2).bind fun xq3 =>
  (zz41 xq3.1 (l2, x3, xq2, ())).bind fun rq4 =>
  cond rq4.1
  (some (true, (())))
  (rec l2 x3 t9 t10 (IntKind.i64.wrap (t11 + (1 : Int)))))
  (k)
def vgn : Z0 :=
  some (false, (()))
def vash (L2 : Y1 → Int → Y4 → Int → Int → Z0) (l_0 : Y1) (x_1 : Int) : Z0 :=
  (zz38 l_0 x_1).bind fun rq1 =>
  L2 l_0 x_1 rq1.1 (rq1.1.length : Int) (0 : Int)
def vqi (N : Nat) (k : Z0) : Nat → Y1 → Int → Y4 → Int → Int → Z0
  | 0, _, _, _, _, _ => none
  | m + 1, l2, x3, t9, t10, t11 => vps (vqi N k m) k l2 x3 t9 t10 t11
def vahr (N : Nat) (l2 : Y1) (x3 : Int) (t9 : Y4) (t10 t11 : Int) : Z0 := vqi N (vgn) N l2 x3 t9 t10 t11
def zz42 (N : Nat) (l_0 : Y1) (x_1 : Int) : Z0 := vash (vahr N) l_0 x_1
def S_zz42 : Sig := { a := (.pair (.opt (.pair (.sl (.sl .bool)) (.pair (.sl (.sl I)) (.pair (.sl (.sl I)) .unit)))) (.pair I .unit)), md := [0, 0], mf := [], m := .unit, r := .bool, rf := .i, f := fun x => zz42 big x.1 x.2.1 }
def A_zz42 : Cfg := mkCfg tab [(73, S_zz38), (71, S_zz41)] [(4, [.drop, .drop, .as (.ptr (.opt (.pair (.sl (.sl .bool)) (.pair (.sl (.sl I)) (.pair (.sl (.sl I)) .unit))))) .i, .as (.ptr I) .i, .drop, .drop, .drop, .drop, .drop, .as (.sl I) (.o .i), .as I .i, .as I .i]), (9, [.drop, .drop, .as (.ptr (.opt (.pair (.sl (.sl .bool)) (.pair (.sl (.sl I)) (.pair (.sl (.sl I)) .unit))))) .i, .as (.ptr I) .i, .drop, .drop, .as (.ptr I) .i, .drop, .drop, .as (.sl I) (.o .i), .as I .i, .as I .i]), (15, [])]
noncomputable def voc (N n : Nat) (K : Ex → St → Z0) (l2 : Y1) (x3 : Int) (t9 : Y4) (t10 t11 : Int) : Z0 := iter ((A_zz42).shape 4) (run (A_zz42) N (codeAt Try.f63 [1, 0, 1, 0, 0])) n ([.u, .u, .val (.ptr (.opt (.pair (.sl (.sl .bool)) (.pair (.sl (.sl I)) (.pair (.sl (.sl I)) .unit))))) .i l2, .val (.ptr I) .i x3, .u, .u, .u, .u, .u, .val (.sl I) (.o .i) t9, .val I .i t10, .val I .i t11] ++ List.replicate 10 .u) K
noncomputable abbrev vary : Ex → St → Z0 := finish (A_zz42) S_zz42 Try.f63.results.toList
noncomputable abbrev vsh (kX : St → Z0) : Z0 := kX ([] ++ List.replicate 22 .u)
noncomputable abbrev vzx (kX : St → Z0) (kO : Nat → St → Z0) : Ex → St → Z0 := exK vary 0 ((A_zz42).shape 15) kX kO
theorem vbbv (N m : Nat) (kX : St → Z0) (kO : Nat → St → Z0) (l2 : Y1) (x3 : Int) (t9 : Y4) (t10 t11 : Int) : voc N (m + 1) (vzx kX kO) l2 x3 t9 t10 t11 = vps (voc N m (vzx kX kO)) (vsh kX) l2 x3 t9 t10 t11 := by kernel_rfl
theorem vadp (N : Nat) (kX : St → Z0) (kO : Nat → St → Z0) : ∀ (n : Nat) (l2 : Y1) (x3 : Int) (t9 : Y4) (t10 t11 : Int), voc N n (vzx kX kO) l2 x3 t9 t10 t11 = vqi N (vsh kX) n l2 x3 t9 t10 t11
  | 0, _, _, _, _, _ => rfl
  | m + 1, l2, x3, t9, t10, t11 => by
    have hrec : voc N m (vzx kX kO) = (vqi N (vsh kX) m) := (funext fun l2 => (funext fun x3 => (funext fun t9 => (funext fun t10 => (funext fun t11 => vadp N kX kO m l2 x3 t9 t10 t11)))))
    refine (vbbv N m kX kO l2 x3 t9 t10 t11).trans ?_
    rw [hrec]
    rfl
noncomputable abbrev vakv (N : Nat) : Ex → St → Z0 := (blockK 0 (seqK ((A_zz42).shape 15) (gated ((A_zz42).shape 500007).isSome N (run (A_zz42) N (codeAt Try.f63 [1, 1]))) vary))
noncomputable abbrev vakw (N : Nat) : St → Z0 := fun st' => run (A_zz42) N (codeAt Try.f63 [1, 1]) st' vary
theorem vawg (N : Nat) : vsh (vakw N) = vgn := by kernel_rfl
theorem vbki (N : Nat) (l2 : Y1) (x3 : Int) (t9 : Y4) (t10 t11 : Int) : voc N N (vakv N) l2 x3 t9 t10 t11 = vahr N l2 x3 t9 t10 t11 :=
  have h : vsh (vakw N) = (vgn) := vawg N
  ((vad (fun st => by kernel_rfl) (fun st => by kernel_rfl)).trans (vadp N (vakw N) (fun j st => (vakv N) (.exit j) st) N l2 x3 t9 t10 t11)).trans (congrArg (fun k => vqi N k N l2 x3 t9 t10 t11) h)
theorem run0_zz42 (N : Nat) (x : (S_zz42).a.den) : runF (A_zz42) N Try.f63 S_zz42 x = (vash (voc N N (vakv N)) x.1 x.2.1) := by kernel_rfl
theorem run_zz42 (N : Nat) (x : (S_zz42).a.den) : runF (A_zz42) N Try.f63 S_zz42 x = zz42 N x.1 x.2.1 := by
  refine (run0_zz42 N x).trans ?_
  rw [(funext fun l2 => (funext fun x3 => (funext fun t9 => (funext fun t10 => (funext fun t11 => vbki N l2 x3 t9 t10 t11)))))]
  rfl
theorem fn_zz42 : FnOk Try.prog 63 := ⟨_, Try.func63, by kernel_rfl, by kernel_rfl⟩
theorem good_zz42 : Gx.Good Try.prog 63 S_zz42 := vaa Try.func63 (of_decide_eq_true (by kernel_rfl)) fun x r h => ⟨A_zz42, big, vac tabOk, vab (show SigsOk Try.prog [(73, S_zz38), (71, S_zz41)] from ⟨⟨fn_zz38, good_zz38⟩, ⟨fn_zz41, good_zz41⟩, trivial⟩), (run_zz42 big x).trans h⟩
def vmx (rec : Z16 → Y4 → Int → Int → Z5) (k : Y4 → Z5) (so1 : Z16) (list5 : Y4) (t9 t10 : Int) : Z5 :=
  cond (decide (t10 < t9))
  ((zz42 big so1.1 t10).bind fun rq1 =>
  cond rq1.1
  ((appI list5 [t10]).bind fun xq2 =>
  rec so1 xq2 t9 (IntKind.i64.wrap (t10 + (1 : Int))))
  (rec so1 list5 t9 (IntKind.i64.wrap (t10 + (1 : Int)))))
  (k list5)
def vex (list5 : Y4) : Z5 :=
  some (list5, (()))
def vaqk (L3 : Z16 → Y4 → Int → Int → Z5) (o_0 : Y5) (so_1 : Z16) : Z5 :=
  L3 so_1 [] (o_0.length : Int) (0 : Int)
def vpf (N : Nat) (k : Y4 → Z5) : Nat → Z16 → Y4 → Int → Int → Z5
  | 0, _, _, _, _ => none
  | m + 1, so1, list5, t9, t10 => vmx (vpf N k m) k so1 list5 t9 t10
def valh (N : Nat) (so1 : Z16) (list5 : Y4) (t9 t10 : Int) : Z5 := vpf N (vex) N so1 list5 t9 t10
def zz43 (N : Nat) (o_0 : Y5) (so_1 : Z16) : Z5 := vaqk (valh N) o_0 so_1
def S_zz43 : Sig := { a := (.pair (.sl (.sl .bool)) (.pair (.clo 63 1 (.pair (.opt (.pair (.sl (.sl .bool)) (.pair (.sl (.sl I)) (.pair (.sl (.sl I)) .unit)))) .unit)) .unit)), md := [0, 0], mf := [], m := .unit, r := (.sl I), rf := (.o .i), f := fun x => zz43 big x.1 x.2.1 }
def A_zz43 : Cfg := mkCfg tab [(63, S_zz42)] [(6, [.drop, .as (.clo 63 1 (.pair (.opt (.pair (.sl (.sl .bool)) (.pair (.sl (.sl I)) (.pair (.sl (.sl I)) .unit)))) .unit)) .i, .drop, .drop, .drop, .as (.sl I) (.o .i), .drop, .drop, .drop, .as I .i, .as I .i]), (17, [.drop, .drop, .drop, .drop, .drop, .as (.sl I) (.o .i)])]
noncomputable def voj (N n : Nat) (K : Ex → St → Z5) (so1 : Z16) (list5 : Y4) (t9 t10 : Int) : Z5 := iter ((A_zz43).shape 6) (run (A_zz43) N (codeAt Try.f62 [1, 1, 0, 1, 0, 0])) n ([.u, .val (.clo 63 1 (.pair (.opt (.pair (.sl (.sl .bool)) (.pair (.sl (.sl I)) (.pair (.sl (.sl I)) .unit)))) .unit)) .i so1, .u, .u, .u, .val (.sl I) (.o .i) list5, .u, .u, .u, .val I .i t9, .val I .i t10] ++ List.replicate 11 .u) K
noncomputable abbrev vaun : Ex → St → Z5 := finish (A_zz43) S_zz43 Try.f62.results.toList
noncomputable abbrev vtk (kX : St → Z5) : Y4 → Z5 := fun (list5 : Y4) => kX ([.u, .u, .u, .u, .u, .val (.sl I) (.o .i) list5] ++ List.replicate 16 .u)
noncomputable abbrev vzz (kX : St → Z5) (kO : Nat → St → Z5) : Ex → St → Z5 := exK vaun 0 ((A_zz43).shape 17) kX kO
theorem vbcu (N m : Nat) (kX : St → Z5) (kO : Nat → St → Z5) (so1 : Z16) (list5 : Y4) (t9 t10 : Int) : voj N (m + 1) (vzz kX kO) so1 list5 t9 t10 = vmx (voj N m (vzz kX kO)) (vtk kX) so1 list5 t9 t10 := by kernel_rfl
theorem vadr (N : Nat) (kX : St → Z5) (kO : Nat → St → Z5) : ∀ (n : Nat) (so1 : Z16) (list5 : Y4) (t9 t10 : Int), voj N n (vzz kX kO) so1 list5 t9 t10 = vpf N (vtk kX) n so1 list5 t9 t10
  | 0, _, _, _, _ => rfl
  | m + 1, so1, list5, t9, t10 => by
    have hrec : voj N m (vzz kX kO) = (vpf N (vtk kX) m) := (funext fun so1 => (funext fun list5 => (funext fun t9 => (funext fun t10 => vadr N kX kO m so1 list5 t9 t10))))
    refine (vbcu N m kX kO so1 list5 t9 t10).trans ?_
    rw [hrec]
    rfl
noncomputable abbrev vamr (N : Nat) : Ex → St → Z5 := (blockK 0 (seqK ((A_zz43).shape 17) (gated ((A_zz43).shape 500008).isSome N (run (A_zz43) N (codeAt Try.f62 [1, 1, 1]))) vaun))
noncomputable abbrev vajs (N : Nat) : St → Z5 := fun st' => run (A_zz43) N (codeAt Try.f62 [1, 1, 1]) st' vaun
theorem vaxb (N : Nat) (list5 : Y4) : vtk (vajs N) list5 = vex list5 := by kernel_rfl
theorem vbks (N : Nat) (so1 : Z16) (list5 : Y4) (t9 t10 : Int) : voj N N (vamr N) so1 list5 t9 t10 = valh N so1 list5 t9 t10 :=
  have h : vtk (vajs N) = (vex) := (funext fun list5 => vaxb N list5)
  ((vad (fun st => by kernel_rfl) (fun st => by kernel_rfl)).trans (vadr N (vajs N) (fun j st => (vamr N) (.exit j) st) N so1 list5 t9 t10)).trans (congrArg (fun k => vpf N k N so1 list5 t9 t10) h)
theorem run0_zz43 (N : Nat) (x : (S_zz43).a.den) : runF (A_zz43) N Try.f62 S_zz43 x = (vaqk (voj N N (vamr N)) x.1 x.2.1) := by kernel_rfl
theorem run_zz43 (N : Nat) (x : (S_zz43).a.den) : runF (A_zz43) N Try.f62 S_zz43 x = zz43 N x.1 x.2.1 := by
  refine (run0_zz43 N x).trans ?_
  rw [(funext fun so1 => (funext fun list5 => (funext fun t9 => (funext fun t10 => vbks N so1 list5 t9 t10))))]
  rfl
theorem fn_zz43 : FnOk Try.prog 62 := ⟨_, Try.func62, by kernel_rfl, by kernel_rfl⟩
theorem good_zz43 : Gx.Good Try.prog 62 S_zz43 := vaa Try.func62 (of_decide_eq_true (by kernel_rfl)) fun x r h => ⟨A_zz43, big, vac tabOk, vab (show SigsOk Try.prog [(63, S_zz42)] from ⟨⟨fn_zz42, good_zz42⟩, trivial⟩), (run_zz43 big x).trans h⟩
def vatd (l_0 : Y1) : Z5 :=
  (l_0).bind fun xq1 =>
  (zz43 big xq1.1 (l_0, ())).bind fun rq2 =>
  some (rq2.1, (()))
def zz44 (l_0 : Y1) : Z5 := vatd l_0
def S_zz44 : Sig := { a := (.pair (.opt (.pair (.sl (.sl .bool)) (.pair (.sl (.sl I)) (.pair (.sl (.sl I)) .unit)))) .unit), md := [0], mf := [], m := .unit, r := (.sl I), rf := (.o .i), f := fun x => zz44 x.1 }
def A_zz44 : Cfg := mkCfg tab [(62, S_zz43)] []
theorem run_zz44 (N : Nat) (x : (S_zz44).a.den) : runF (A_zz44) N Try.f61 S_zz44 x = zz44 x.1 := by kernel_rfl
theorem fn_zz44 : FnOk Try.prog 61 := ⟨_, Try.func61, by kernel_rfl, by kernel_rfl⟩
theorem good_zz44 : Gx.Good Try.prog 61 S_zz44 := vaa Try.func61 (of_decide_eq_true (by kernel_rfl)) fun x r h => ⟨A_zz44, big, vac tabOk, vab (show SigsOk Try.prog [(62, S_zz43)] from ⟨⟨fn_zz43, good_zz43⟩, trivial⟩), (run_zz44 big x).trans h⟩
def vada (p_0 : Y2) (list_1 : Unit) : Z7 :=
  (zz32 p_0).bind fun rq1 =>
  cond (!rq1.1.2.1)
  (some (([], false, ()), (())))
  ((zz44 rq1.1.1).bind fun rq2 =>
  some ((rq2.1, true, ()), (())))
def zz45 (p_0 : Y2) (list_1 : Unit) : Z7 := vada p_0 list_1
def S_zz45 : Sig := { a := (.pair (.pair (.sl (.sl I)) .unit) (.pair (.clo 61 0 .unit) .unit)), md := [0, 0], mf := [], m := .unit, r := (.tup (.pair (.sl I) (.pair .bool .unit))), rf := (.p (.o .i) .i), f := fun x => zz45 x.1 x.2.1 }
def A_zz45 : Cfg := mkCfg tab [(51, S_zz32), (61, S_zz44)] []
theorem run_zz45 (N : Nat) (x : (S_zz45).a.den) : runF (A_zz45) N Try.f60 S_zz45 x = zz45 x.1 x.2.1 := by kernel_rfl
theorem fn_zz45 : FnOk Try.prog 60 := ⟨_, Try.func60, by kernel_rfl, by kernel_rfl⟩
theorem good_zz45 : Gx.Good Try.prog 60 S_zz45 := vaa Try.func60 (of_decide_eq_true (by kernel_rfl)) fun x r h => ⟨A_zz45, big, vac tabOk, vab (show SigsOk Try.prog [(51, S_zz32), (61, S_zz44)] from ⟨⟨fn_zz32, good_zz32⟩, ⟨fn_zz44, good_zz44⟩, trivial⟩), (run_zz45 big x).trans h⟩
def vadg (p_0 : Y2) : Z7 :=
  (zz45 p_0 ()).bind fun rq1 =>
  some ((rq1.1.1, (((), rq1.1.2).2).1, ()), (()))
def zz46 (p_0 : Y2) : Z7 := vadg p_0
def S_zz46 : Sig := { a := (.pair (.pair (.sl (.sl I)) .unit) .unit), md := [0], mf := [], m := .unit, r := (.tup (.pair (.sl I) (.pair .bool .unit))), rf := (.p (.o .i) .i), f := fun x => zz46 x.1 }
def A_zz46 : Cfg := mkCfg tab [(60, S_zz45)] []
theorem run_zz46 (N : Nat) (x : (S_zz46).a.den) : runF (A_zz46) N Try.f20 S_zz46 x = zz46 x.1 := by kernel_rfl
theorem fn_zz46 : FnOk Try.prog 20 := ⟨_, Try.func20, by kernel_rfl, by kernel_rfl⟩
theorem good_zz46 : Gx.Good Try.prog 20 S_zz46 := vaa Try.func20 (of_decide_eq_true (by kernel_rfl)) fun x r h => ⟨A_zz46, big, vac tabOk, vab (show SigsOk Try.prog [(60, S_zz45)] from ⟨⟨fn_zz45, good_zz45⟩, trivial⟩), (run_zz46 big x).trans h⟩
def vair (rec : Y4 → Int → Int → Int → Z0) (k : Z0) (l0 : Y4) (lo1 hi2 i7 : Int) : Z0 :=
  cond (decide (i7 < (l0.length : Int)))
  ((atI l0 i7).bind fun xq1 =>
  (zz6 xq1 lo1 hi2).bind fun rq2 =>
  cond (!rq2.1)
  (some (false, (())))
  (cond (decide ((0 : Int) < i7))
  ((atI l0 (IntKind.i64.wrap (i7 - (1 : Int)))).bind fun xq3 =>
  (atI l0 i7).bind fun xq4 =>
  cond (decide (xq4 ≤ xq3))
  (some (false, (())))
  (rec l0 lo1 hi2 (IntKind.i64.wrap (i7 + (1 : Int)))))
  (rec l0 lo1 hi2 (IntKind.i64.wrap (i7 + (1 : Int))))))
  (k)
def vpc : Z0 :=
  some (true, (()))
def vatq (L2 : Y4 → Int → Int → Int → Z0) (l_0 : Y4) (lo_1 hi_2 : Int) : Z0 :=
  L2 l_0 lo_1 hi_2 (0 : Int)
def veh (N : Nat) (k : Z0) : Nat → Y4 → Int → Int → Int → Z0
  | 0, _, _, _, _ => none
  | m + 1, l0, lo1, hi2, i7 => vair (veh N k m) k l0 lo1 hi2 i7
def vakl (N : Nat) (l0 : Y4) (lo1 hi2 i7 : Int) : Z0 := veh N (vpc) N l0 lo1 hi2 i7
def zz47 (N : Nat) (l_0 : Y4) (lo_1 hi_2 : Int) : Z0 := vatq (vakl N) l_0 lo_1 hi_2
def S_zz47 : Sig := { a := (.pair (.sl I) (.pair I (.pair I .unit))), md := [0, 0, 0], mf := [], m := .unit, r := .bool, rf := .i, f := fun x => zz47 big x.1 x.2.1 x.2.2.1 }
def A_zz47 : Cfg := mkCfg tab [(107, S_zz6)] [(4, [.as (.sl I) .i, .as I .i, .as I .i, .drop, .drop, .drop, .drop, .as I .i]), (13, [])]
noncomputable def vnt (N n : Nat) (K : Ex → St → Z0) (l0 : Y4) (lo1 hi2 i7 : Int) : Z0 := iter ((A_zz47).shape 4) (run (A_zz47) N (codeAt Try.f125 [1, 0, 1, 0, 0])) n ([.val (.sl I) .i l0, .val I .i lo1, .val I .i hi2, .u, .u, .u, .u, .val I .i i7] ++ List.replicate 30 .u) K
noncomputable abbrev vasp : Ex → St → Z0 := finish (A_zz47) S_zz47 Try.f125.results.toList
noncomputable abbrev vuy (kX : St → Z0) : Z0 := kX ([] ++ List.replicate 38 .u)
noncomputable abbrev vyc (kX : St → Z0) (kO : Nat → St → Z0) : Ex → St → Z0 := exK vasp 0 ((A_zz47).shape 13) kX kO
theorem vbdy (N m : Nat) (kX : St → Z0) (kO : Nat → St → Z0) (l0 : Y4) (lo1 hi2 i7 : Int) : vnt N (m + 1) (vyc kX kO) l0 lo1 hi2 i7 = vair (vnt N m (vyc kX kO)) (vuy kX) l0 lo1 hi2 i7 := by kernel_rfl
theorem vacr (N : Nat) (kX : St → Z0) (kO : Nat → St → Z0) : ∀ (n : Nat) (l0 : Y4) (lo1 hi2 i7 : Int), vnt N n (vyc kX kO) l0 lo1 hi2 i7 = veh N (vuy kX) n l0 lo1 hi2 i7
  | 0, _, _, _, _ => rfl
  | m + 1, l0, lo1, hi2, i7 => by
    have hrec : vnt N m (vyc kX kO) = (veh N (vuy kX) m) := (funext fun l0 => (funext fun lo1 => (funext fun hi2 => (funext fun i7 => vacr N kX kO m l0 lo1 hi2 i7))))
    refine (vbdy N m kX kO l0 lo1 hi2 i7).trans ?_
    rw [hrec]
    rfl
noncomputable abbrev valu (N : Nat) : Ex → St → Z0 := (blockK 0 (seqK ((A_zz47).shape 13) (gated ((A_zz47).shape 500006).isSome N (run (A_zz47) N (codeAt Try.f125 [1, 1]))) vasp))
noncomputable abbrev vamf (N : Nat) : St → Z0 := fun st' => run (A_zz47) N (codeAt Try.f125 [1, 1]) st' vasp
theorem vavu (N : Nat) : vuy (vamf N) = vpc := by kernel_rfl
theorem vbkb (N : Nat) (l0 : Y4) (lo1 hi2 i7 : Int) : vnt N N (valu N) l0 lo1 hi2 i7 = vakl N l0 lo1 hi2 i7 :=
  have h : vuy (vamf N) = (vpc) := vavu N
  ((vad (fun st => by kernel_rfl) (fun st => by kernel_rfl)).trans (vacr N (vamf N) (fun j st => (valu N) (.exit j) st) N l0 lo1 hi2 i7)).trans (congrArg (fun k => veh N k N l0 lo1 hi2 i7) h)
theorem run0_zz47 (N : Nat) (x : (S_zz47).a.den) : runF (A_zz47) N Try.f125 S_zz47 x = (vatq (vnt N N (valu N)) x.1 x.2.1 x.2.2.1) := by kernel_rfl
theorem run_zz47 (N : Nat) (x : (S_zz47).a.den) : runF (A_zz47) N Try.f125 S_zz47 x = zz47 N x.1 x.2.1 x.2.2.1 := by
  refine (run0_zz47 N x).trans ?_
  rw [(funext fun l0 => (funext fun lo1 => (funext fun hi2 => (funext fun i7 => vbkb N l0 lo1 hi2 i7))))]
  rfl
theorem fn_zz47 : FnOk Try.prog 125 := ⟨_, Try.func125, by kernel_rfl, by kernel_rfl⟩
theorem good_zz47 : Gx.Good Try.prog 125 S_zz47 := vaa Try.func125 (of_decide_eq_true (by kernel_rfl)) fun x r h => ⟨A_zz47, big, vac tabOk, vab (show SigsOk Try.prog [(107, S_zz6)] from ⟨⟨fn_zz6, good_zz6⟩, trivial⟩), (run_zz47 big x).trans h⟩
def voq (rec : Y4 → Y4 → Int → Z0) (k : Z0) (x0 y1 : Y4) (i5 : Int) : Z0 :=
  cond (decide (i5 < (x0.length : Int)))
  ((atI x0 i5).bind fun xq1 =>
  (zz14 big y1 xq1).bind fun rq2 =>
  cond (!rq2.1)
  (some (false, (())))
  (rec x0 y1 (IntKind.i64.wrap (i5 + (1 : Int)))))
  (k)
def vft : Z0 :=
  some (true, (()))
def vaus (L2 : Y4 → Y4 → Int → Z0) (x_0 y_1 : Y4) : Z0 :=
  L2 x_0 y_1 (0 : Int)
def vpi (N : Nat) (k : Z0) : Nat → Y4 → Y4 → Int → Z0
  | 0, _, _, _ => none
  | m + 1, x0, y1, i5 => voq (vpi N k m) k x0 y1 i5
def vaju (N : Nat) (x0 y1 : Y4) (i5 : Int) : Z0 := vpi N (vft) N x0 y1 i5
def zz48 (N : Nat) (x_0 y_1 : Y4) : Z0 := vaus (vaju N) x_0 y_1
def S_zz48 : Sig := { a := (.pair (.sl I) (.pair (.sl I) .unit)), md := [0, 0], mf := [], m := .unit, r := .bool, rf := .i, f := fun x => zz48 big x.1 x.2.1 }
def A_zz48 : Cfg := mkCfg tab [(69, S_zz14)] [(4, [.as (.sl I) .i, .as (.sl I) .i, .drop, .drop, .drop, .as I .i]), (13, [])]
noncomputable def vmf (N n : Nat) (K : Ex → St → Z0) (x0 y1 : Y4) (i5 : Int) : Z0 := iter ((A_zz48).shape 4) (run (A_zz48) N (codeAt Try.f126 [1, 0, 1, 0, 0])) n ([.val (.sl I) .i x0, .val (.sl I) .i y1, .u, .u, .u, .val I .i i5] ++ List.replicate 13 .u) K
noncomputable abbrev vasa : Ex → St → Z0 := finish (A_zz48) S_zz48 Try.f126.results.toList
noncomputable abbrev vtd (kX : St → Z0) : Z0 := kX ([] ++ List.replicate 19 .u)
noncomputable abbrev vzt (kX : St → Z0) (kO : Nat → St → Z0) : Ex → St → Z0 := exK vasa 0 ((A_zz48).shape 13) kX kO
theorem vbas (N m : Nat) (kX : St → Z0) (kO : Nat → St → Z0) (x0 y1 : Y4) (i5 : Int) : vmf N (m + 1) (vzt kX kO) x0 y1 i5 = voq (vmf N m (vzt kX kO)) (vtd kX) x0 y1 i5 := by kernel_rfl
theorem vacw (N : Nat) (kX : St → Z0) (kO : Nat → St → Z0) : ∀ (n : Nat) (x0 y1 : Y4) (i5 : Int), vmf N n (vzt kX kO) x0 y1 i5 = vpi N (vtd kX) n x0 y1 i5
  | 0, _, _, _ => rfl
  | m + 1, x0, y1, i5 => by
    have hrec : vmf N m (vzt kX kO) = (vpi N (vtd kX) m) := (funext fun x0 => (funext fun y1 => (funext fun i5 => vacw N kX kO m x0 y1 i5)))
    refine (vbas N m kX kO x0 y1 i5).trans ?_
    rw [hrec]
    rfl
noncomputable abbrev vahb (N : Nat) : Ex → St → Z0 := (blockK 0 (seqK ((A_zz48).shape 13) (gated ((A_zz48).shape 500006).isSome N (run (A_zz48) N (codeAt Try.f126 [1, 1]))) vasa))
noncomputable abbrev vaib (N : Nat) : St → Z0 := fun st' => run (A_zz48) N (codeAt Try.f126 [1, 1]) st' vasa
theorem vavf (N : Nat) : vtd (vaib N) = vft := by kernel_rfl
theorem vbjk (N : Nat) (x0 y1 : Y4) (i5 : Int) : vmf N N (vahb N) x0 y1 i5 = vaju N x0 y1 i5 :=
  have h : vtd (vaib N) = (vft) := vavf N
  ((vad (fun st => by kernel_rfl) (fun st => by kernel_rfl)).trans (vacw N (vaib N) (fun j st => (vahb N) (.exit j) st) N x0 y1 i5)).trans (congrArg (fun k => vpi N k N x0 y1 i5) h)
theorem run0_zz48 (N : Nat) (x : (S_zz48).a.den) : runF (A_zz48) N Try.f126 S_zz48 x = (vaus (vmf N N (vahb N)) x.1 x.2.1) := by kernel_rfl
theorem run_zz48 (N : Nat) (x : (S_zz48).a.den) : runF (A_zz48) N Try.f126 S_zz48 x = zz48 N x.1 x.2.1 := by
  refine (run0_zz48 N x).trans ?_
  rw [(funext fun x0 => (funext fun y1 => (funext fun i5 => vbjk N x0 y1 i5)))]
  rfl
theorem fn_zz48 : FnOk Try.prog 126 := ⟨_, Try.func126, by kernel_rfl, by kernel_rfl⟩
theorem good_zz48 : Gx.Good Try.prog 126 S_zz48 := vaa Try.func126 (of_decide_eq_true (by kernel_rfl)) fun x r h => ⟨A_zz48, big, vac tabOk, vab (show SigsOk Try.prog [(69, S_zz14)] from ⟨⟨fn_zz14, good_zz14⟩, trivial⟩), (run_zz48 big x).trans h⟩
def vju (rec : Y2 → Int → Int → Int → Z0) (k : Y2 → Int → Int → Z0) (p1 : Y2) (n3 x5 i6 : Int) : Z0 :=
  (atI p1.1 x5).bind fun xq5 =>
  cond (decide (i6 < (xq5.length : Int)))
  ((atI p1.1 x5).bind fun xq6 =>
  (atI xq6 i6).bind fun xq7 =>
  cond (decide (xq7 ≠ x5))
  ((atI p1.1 xq7).bind fun xq8 =>
  (zz14 big xq8 x5).bind fun rq9 =>
  cond rq9.1
  (some (false, (())))
  ((atI p1.1 xq7).bind fun xq10 =>
  (atI p1.1 x5).bind fun xq11 =>
  (zz48 big xq10 xq11).bind fun rq12 =>
  cond (!rq12.1)
  (some (false, (())))
  (rec p1 n3 x5 (IntKind.i64.wrap (i6 + (1 : Int))))))
  ((atI p1.1 xq7).bind fun xq13 =>
  (atI p1.1 x5).bind fun xq14 =>
  (zz48 big xq13 xq14).bind fun rq15 =>
  cond (!rq15.1)
  (some (false, (())))
  (rec p1 n3 x5 (IntKind.i64.wrap (i6 + (1 : Int))))))
  (k p1 n3 x5)
def vec (rec : Y2 → Int → Int → Z0) (p1 : Y2) (n3 x5 : Int) : Z0 :=
  rec p1 n3 (IntKind.i64.wrap (x5 + (1 : Int)))
def vfn (L13 : Y2 → Int → Int → Int → Z0) (k : Z0) (p1 : Y2) (n3 x5 : Int) : Z0 :=
  cond (decide (x5 < n3))
  (L13 p1 n3 x5 (0 : Int))
  (k)
def vbw : Z0 :=
  some (true, (()))
def vno (rec : Y2 → Int → Int → Z0) (k : Y2 → Int → Z0) (p1 : Y2) (n3 x4 : Int) : Z0 :=
  cond (decide (x4 < n3))
  ((atI p1.1 x4).bind fun xq1 =>
  (zz47 big xq1 (0 : Int) (IntKind.i64.wrap (n3 - (1 : Int)))).bind fun rq2 =>
  cond (!rq2.1)
  (some (false, (())))
  ((atI p1.1 x4).bind fun xq3 =>
  (zz14 big xq3 x4).bind fun rq4 =>
  cond (!rq4.1)
  (some (false, (())))
  (rec p1 n3 (IntKind.i64.wrap (x4 + (1 : Int))))))
  (k p1 n3)
def vig (L10 : Y2 → Int → Int → Z0) (p1 : Y2) (n3 : Int) : Z0 :=
  L10 p1 n3 (0 : Int)
def vaui (L5 : Y2 → Int → Int → Z0) (p_0 : Y2) : Z0 :=
  cond (decide ((10 : Int) < (p_0.1.length : Int)))
  (some (false, (())))
  (L5 p_0 (p_0.1.length : Int) (0 : Int))
def vkf (N : Nat) (k : Y2 → Int → Int → Z0) : Nat → Y2 → Int → Int → Int → Z0
  | 0, _, _, _, _ => none
  | m + 1, p1, n3, x5, i6 => vju (vkf N k m) k p1 n3 x5 i6
def vrj (N : Nat) (rec : Y2 → Int → Int → Z0) (k : Z0) (p1 : Y2) (n3 x5 i6 : Int) : Z0 := vkf N (vec rec) N p1 n3 x5 i6
def vmk (N : Nat) (k : Y2 → Int → Z0) : Nat → Y2 → Int → Int → Z0
  | 0, _, _, _ => none
  | m + 1, p1, n3, x4 => vno (vmk N k m) k p1 n3 x4
def veb (N : Nat) (k : Z0) : Nat → Y2 → Int → Int → Z0
  | 0, _, _, _ => none
  | m + 1, p1, n3, x5 => vfn (vrj N (veb N k m) k) k p1 n3 x5
def vdy (N : Nat) (p1 : Y2) (n3 x5 : Int) : Z0 := veb N (vbw) N p1 n3 x5
def vakb (N : Nat) (p1 : Y2) (n3 x4 : Int) : Z0 := vmk N (vig (vdy N)) N p1 n3 x4
def zz49 (N : Nat) (p_0 : Y2) : Z0 := vaui (vakb N) p_0
def S_zz49 : Sig := { a := (.pair (.pair (.sl (.sl I)) .unit) .unit), md := [0], mf := [], m := .unit, r := .bool, rf := .i, f := fun x => zz49 big x.1 }
def A_zz49 : Cfg := mkCfg tab [(125, S_zz47), (69, S_zz14), (126, S_zz48)] [(10, [.drop, .as y1 (.o .i), .drop, .as I .i, .as I .i]), (19, [.drop, .as y1 (.o .i), .drop, .as I .i]), (20, [.drop, .as y1 (.o .i), .drop, .as I .i, .drop, .as I .i]), (26, [.drop, .as y1 (.o .i), .drop, .as I .i, .drop, .as I .i, .as I .i]), (37, []), (23, [.drop, .as y1 (.o .i), .drop, .as I .i, .drop, .as I .i])]
noncomputable def vlu (N n : Nat) (K : Ex → St → Z0) (p1 : Y2) (n3 x4 : Int) : Z0 := iter ((A_zz49).shape 10) (run (A_zz49) N (codeAt Try.f104 [1, 1, 1, 0, 1, 0, 0])) n ([.u, .val y1 (.o .i) p1, .u, .val I .i n3, .val I .i x4] ++ List.replicate 81 .u) K
noncomputable def vdu (N n : Nat) (K : Ex → St → Z0) (p1 : Y2) (n3 x5 : Int) : Z0 := iter ((A_zz49).shape 20) (run (A_zz49) N (codeAt Try.f104 [1, 1, 1, 1, 0, 1, 0, 0])) n ([.u, .val y1 (.o .i) p1, .u, .val I .i n3, .u, .val I .i x5] ++ List.replicate 80 .u) K
noncomputable def vhm (N n : Nat) (K : Ex → St → Z0) (p1 : Y2) (n3 x5 i6 : Int) : Z0 := iter ((A_zz49).shape 26) (run (A_zz49) N (codeAt Try.f104 [1, 1, 1, 1, 0, 1, 0, 0, 1, 0, 0, 1, 0, 0])) n ([.u, .val y1 (.o .i) p1, .u, .val I .i n3, .u, .val I .i x5, .val I .i i6] ++ List.replicate 79 .u) K
noncomputable abbrev vqx : Ex → St → Z0 := finish (A_zz49) S_zz49 Try.f104.results.toList
noncomputable abbrev vsr (kX : St → Z0) : Y2 → Int → Z0 := fun (p1 : Y2) (n3 : Int) => kX ([.u, .val y1 (.o .i) p1, .u, .val I .i n3] ++ List.replicate 82 .u)
noncomputable abbrev vzh (kX : St → Z0) (kO : Nat → St → Z0) : Ex → St → Z0 := exK vqx 0 ((A_zz49).shape 19) kX kO
noncomputable abbrev vds (kX : St → Z0) : Z0 := kX ([] ++ List.replicate 86 .u)
noncomputable abbrev vdw (kX : St → Z0) (kO : Nat → St → Z0) : Ex → St → Z0 := exK vqx 2 ((A_zz49).shape 37) kX kO
noncomputable abbrev vqy (kX : St → Z0) : Y2 → Int → Int → Z0 := fun (p1 : Y2) (n3 x5 : Int) => kX ([.u, .val y1 (.o .i) p1, .u, .val I .i n3, .u, .val I .i x5] ++ List.replicate 80 .u)
noncomputable abbrev vvs (kX : St → Z0) (kO : Nat → St → Z0) : Ex → St → Z0 := exK vqx 4 ((A_zz49).shape 23) kX kO
theorem vbbd (N m : Nat) (kX : St → Z0) (kO : Nat → St → Z0) (p1 : Y2) (n3 x4 : Int) : vlu N (m + 1) (vzh kX kO) p1 n3 x4 = vno (vlu N m (vzh kX kO)) (vsr kX) p1 n3 x4 := by kernel_rfl
theorem vadl (N : Nat) (kX : St → Z0) (kO : Nat → St → Z0) : ∀ (n : Nat) (p1 : Y2) (n3 x4 : Int), vlu N n (vzh kX kO) p1 n3 x4 = vmk N (vsr kX) n p1 n3 x4
  | 0, _, _, _ => rfl
  | m + 1, p1, n3, x4 => by
    have hrec : vlu N m (vzh kX kO) = (vmk N (vsr kX) m) := (funext fun p1 => (funext fun n3 => (funext fun x4 => vadl N kX kO m p1 n3 x4)))
    refine (vbbd N m kX kO p1 n3 x4).trans ?_
    rw [hrec]
    rfl
noncomputable abbrev vamx (N : Nat) : Ex → St → Z0 := (blockK 0 (seqK ((A_zz49).shape 19) (gated ((A_zz49).shape 500009).isSome N (run (A_zz49) N (codeAt Try.f104 [1, 1, 1, 1]))) vqx))
theorem vawv (N m : Nat) (kX : St → Z0) (kO : Nat → St → Z0) (p1 : Y2) (n3 x5 i6 : Int) : vhm N (m + 1) (vvs kX kO) p1 n3 x5 i6 = vju (vhm N m (vvs kX kO)) (vqy kX) p1 n3 x5 i6 := by kernel_rfl
theorem vaav (N : Nat) (kX : St → Z0) (kO : Nat → St → Z0) : ∀ (n : Nat) (p1 : Y2) (n3 x5 i6 : Int), vhm N n (vvs kX kO) p1 n3 x5 i6 = vkf N (vqy kX) n p1 n3 x5 i6
  | 0, _, _, _, _ => rfl
  | m + 1, p1, n3, x5, i6 => by
    have hrec : vhm N m (vvs kX kO) = (vkf N (vqy kX) m) := (funext fun p1 => (funext fun n3 => (funext fun x5 => (funext fun i6 => vaav N kX kO m p1 n3 x5 i6))))
    refine (vawv N m kX kO p1 n3 x5 i6).trans ?_
    rw [hrec]
    rfl
noncomputable abbrev vacd (N m : Nat) (kX : St → Z0) (kO : Nat → St → Z0) : Ex → St → Z0 := (blockK 4 (blockK 3 (seqK ((A_zz49).shape 23) (gated ((A_zz49).shape 500011).isSome N (run (A_zz49) N (codeAt Try.f104 [1, 1, 1, 1, 0, 1, 0, 0, 1, 1]))) (iterK ((A_zz49).shape 20) (run (A_zz49) N (codeAt Try.f104 [1, 1, 1, 1, 0, 1, 0, 0])) m (vdw kX kO)))))
noncomputable abbrev vace (N m : Nat) (kX : St → Z0) (kO : Nat → St → Z0) : St → Z0 := fun st' => run (A_zz49) N (codeAt Try.f104 [1, 1, 1, 1, 0, 1, 0, 0, 1, 1]) st' (iterK ((A_zz49).shape 20) (run (A_zz49) N (codeAt Try.f104 [1, 1, 1, 1, 0, 1, 0, 0])) m (vdw kX kO))
theorem vauz (N m : Nat) (kX : St → Z0) (kO : Nat → St → Z0) (p1 : Y2) (n3 x5 : Int) : vqy (vace N m kX kO) p1 n3 x5 = vec (vdu N m (vdw kX kO)) p1 n3 x5 := by kernel_rfl
theorem vbex (N m : Nat) (kX : St → Z0) (kO : Nat → St → Z0) (recF : Y2 → Int → Int → Z0) (hrec : vdu N m (vdw kX kO) = recF) (p1 : Y2) (n3 x5 i6 : Int) : vhm N N (vacd N m kX kO) p1 n3 x5 i6 = vrj N recF (vds kX) p1 n3 x5 i6 :=
  have h : vqy (vace N m kX kO) = (vec recF) := (funext fun p1 => (funext fun n3 => (funext fun x5 => (vauz N m kX kO p1 n3 x5).trans (by rw [hrec]))))
  ((vad (fun st => by kernel_rfl) (fun st => by kernel_rfl)).trans (vaav N (vace N m kX kO) (fun j st => (vacd N m kX kO) (.exit j) st) N p1 n3 x5 i6)).trans (congrArg (fun k => vkf N k N p1 n3 x5 i6) h)
theorem vavp (N m : Nat) (kX : St → Z0) (kO : Nat → St → Z0) (p1 : Y2) (n3 x5 : Int) : vdu N (m + 1) (vdw kX kO) p1 n3 x5 = vfn (vhm N N (vacd N m kX kO)) (vds kX) p1 n3 x5 := by kernel_rfl
theorem vaao (N : Nat) (kX : St → Z0) (kO : Nat → St → Z0) : ∀ (n : Nat) (p1 : Y2) (n3 x5 : Int), vdu N n (vdw kX kO) p1 n3 x5 = veb N (vds kX) n p1 n3 x5
  | 0, _, _, _ => rfl
  | m + 1, p1, n3, x5 => by
    have hrec : vdu N m (vdw kX kO) = (veb N (vds kX) m) := (funext fun p1 => (funext fun n3 => (funext fun x5 => vaao N kX kO m p1 n3 x5)))
    refine (vavp N m kX kO p1 n3 x5).trans ?_
    rw [(funext fun p1 => (funext fun n3 => (funext fun x5 => (funext fun i6 => vbex N m kX kO (veb N (vds kX) m) hrec p1 n3 x5 i6))))]
    rfl
noncomputable abbrev vabr (N : Nat) : Ex → St → Z0 := (blockK 2 (seqK ((A_zz49).shape 37) (gated ((A_zz49).shape 500018).isSome N (run (A_zz49) N (codeAt Try.f104 [1, 1, 1, 1, 1]))) vqx))
noncomputable abbrev vabo (N : Nat) : St → Z0 := fun st' => run (A_zz49) N (codeAt Try.f104 [1, 1, 1, 1, 1]) st' vqx
theorem vatk (N : Nat) : vds (vabo N) = vbw := by kernel_rfl
theorem vbeu (N : Nat) (p1 : Y2) (n3 x5 : Int) : vdu N N (vabr N) p1 n3 x5 = vdy N p1 n3 x5 :=
  have h : vds (vabo N) = (vbw) := vatk N
  ((vad (fun st => by kernel_rfl) (fun st => by kernel_rfl)).trans (vaao N (vabo N) (fun j st => (vabr N) (.exit j) st) N p1 n3 x5)).trans (congrArg (fun k => veb N k N p1 n3 x5) h)
noncomputable abbrev vagz (N : Nat) : St → Z0 := fun st' => run (A_zz49) N (codeAt Try.f104 [1, 1, 1, 1]) st' vqx
theorem vawq (N : Nat) (p1 : Y2) (n3 : Int) : vsr (vagz N) p1 n3 = vig (vdu N N (vabr N)) p1 n3 := by kernel_rfl
theorem vbkk (N : Nat) (p1 : Y2) (n3 x4 : Int) : vlu N N (vamx N) p1 n3 x4 = vakb N p1 n3 x4 :=
  have h : vsr (vagz N) = (vig (vdy N)) := (funext fun p1 => (funext fun n3 => (vawq N p1 n3).trans (by rw [(funext fun p1 => (funext fun n3 => (funext fun x5 => vbeu N p1 n3 x5)))])))
  ((vad (fun st => by kernel_rfl) (fun st => by kernel_rfl)).trans (vadl N (vagz N) (fun j st => (vamx N) (.exit j) st) N p1 n3 x4)).trans (congrArg (fun k => vmk N k N p1 n3 x4) h)
theorem run0_zz49 (N : Nat) (x : (S_zz49).a.den) : runF (A_zz49) N Try.f104 S_zz49 x = (vaui (vlu N N (vamx N)) x.1) := by kernel_rfl
theorem run_zz49 (N : Nat) (x : (S_zz49).a.den) : runF (A_zz49) N Try.f104 S_zz49 x = zz49 N x.1 := by
  refine (run0_zz49 N x).trans ?_
  rw [(funext fun p1 => (funext fun n3 => (funext fun x4 => vbkk N p1 n3 x4)))]
  rfl
theorem fn_zz49 : FnOk Try.prog 104 := ⟨_, Try.func104, by kernel_rfl, by kernel_rfl⟩
theorem good_zz49 : Gx.Good Try.prog 104 S_zz49 := vaa Try.func104 (of_decide_eq_true (by kernel_rfl)) fun x r h => ⟨A_zz49, big, vac tabOk, vab (show SigsOk Try.prog [(125, S_zz47), (69, S_zz14), (126, S_zz48)] from ⟨⟨fn_zz47, good_zz47⟩, ⟨fn_zz14, good_zz14⟩, ⟨fn_zz48, good_zz48⟩, trivial⟩), (run_zz49 big x).trans h⟩
def vqe (rec : Y2 → Y2 → Y2 → Int → Y4 → Int → Z3) (k : Y2 → Y2 → Y2 → Int → Y4 → Z3) (p1 t2 out3 : Y2) (x4 : Int) (below5 : Y4) (y6 : Int) : Z3 :=
  cond (decide (y6 < (p1.1.length : Int)))
  ((zz15 p1 x4 y6).bind fun rq1 =>
  cond rq1.1
  ((appI below5 [y6]).bind fun xq2 =>
  rec p1 t2 out3 x4 xq2 (IntKind.i64.wrap (y6 + (1 : Int))))
  (rec p1 t2 out3 x4 below5 (IntKind.i64.wrap (y6 + (1 : Int)))))
  (k p1 t2 out3 x4 below5)
def vho (rec : Y2 → Y2 → Y2 → Int → Z3) (p1 t2 out3 : Y2) (x4 : Int) (below5 : Y4) : Z3 :=
  (appI out3.1 [below5]).bind fun xq3 =>
  rec p1 t2 (xq3, ((), out3.2).2) (IntKind.i64.wrap (x4 + (1 : Int)))
def vok (L7 : Y2 → Y2 → Y2 → Int → Y4 → Int → Z3) (k : Y2 → Y2 → Z3) (p1 t2 out3 : Y2) (x4 : Int) : Z3 :=
  cond (decide (x4 < (p1.1.length : Int)))
  (L7 p1 t2 out3 x4 [] (0 : Int))
  (k t2 out3)
def vdd (t2 out3 : Y2) : Z3 :=
  some (out3, (()))
def vaut (L3 : Y2 → Y2 → Y2 → Int → Z3) (p_0 : Y2) : Z3 :=
  L3 p_0 (([] : Y3), ()) ([], ()) (0 : Int)
def vob (N : Nat) (k : Y2 → Y2 → Y2 → Int → Y4 → Z3) : Nat → Y2 → Y2 → Y2 → Int → Y4 → Int → Z3
  | 0, _, _, _, _, _, _ => none
  | m + 1, p1, t2, out3, x4, below5, y6 => vqe (vob N k m) k p1 t2 out3 x4 below5 y6
def vty (N : Nat) (rec : Y2 → Y2 → Y2 → Int → Z3) (k : Y2 → Y2 → Z3) (p1 t2 out3 : Y2) (x4 : Int) (below5 : Y4) (y6 : Int) : Z3 := vob N (vho rec) N p1 t2 out3 x4 below5 y6
def vkb (N : Nat) (k : Y2 → Y2 → Z3) : Nat → Y2 → Y2 → Y2 → Int → Z3
  | 0, _, _, _, _ => none
  | m + 1, p1, t2, out3, x4 => vok (vty N (vkb N k m) k) k p1 t2 out3 x4
def vamz (N : Nat) (p1 t2 out3 : Y2) (x4 : Int) : Z3 := vkb N (vdd) N p1 t2 out3 x4
def zz50 (N : Nat) (p_0 : Y2) : Z3 := vaut (vamz N) p_0
def S_zz50 : Sig := { a := (.pair (.pair (.sl (.sl I)) .unit) .unit), md := [0], mf := [], m := .unit, r := (.pair (.sl (.sl I)) .unit), rf := (.p (.o (.o .i)) .i), f := fun x => zz50 big x.1 }
def A_zz50 : Cfg := mkCfg tab [(78, S_zz15)] [(6, [.drop, .as y1 (.o .i), .as y1 (.o (.p (.o (.o .i)) .i)), .as y1 (.o (.p (.o (.o .i)) .i)), .as I .i]), (14, [.drop, .as y1 (.o .i), .as y1 (.o (.p (.o (.o .i)) .i)), .as y1 (.o (.p (.o (.o .i)) .i)), .as I .i, .as (.sl I) (.o .i), .as I .i]), (25, [.drop, .drop, .as y1 (.o (.p (.o (.o .i)) .i)), .as y1 (.o (.p (.o (.o .i)) .i))]), (23, [.drop, .as y1 (.o .i), .as y1 (.o (.p (.o (.o .i)) .i)), .as y1 (.o (.p (.o (.o .i)) .i)), .as I .i, .as (.sl I) (.o .i)])]
noncomputable def vey (N n : Nat) (K : Ex → St → Z3) (p1 t2 out3 : Y2) (x4 : Int) : Z3 := iter ((A_zz50).shape 6) (run (A_zz50) N (codeAt Try.f105 [1, 1, 0, 1, 0, 0])) n ([.u, .val y1 (.o .i) p1, .val y1 (.o (.p (.o (.o .i)) .i)) t2, .val y1 (.o (.p (.o (.o .i)) .i)) out3, .val I .i x4] ++ List.replicate 34 .u) K
noncomputable def vmn (N n : Nat) (K : Ex → St → Z3) (p1 t2 out3 : Y2) (x4 : Int) (below5 : Y4) (y6 : Int) : Z3 := iter ((A_zz50).shape 14) (run (A_zz50) N (codeAt Try.f105 [1, 1, 0, 1, 0, 0, 1, 0, 0, 1, 0, 1, 0, 0])) n ([.u, .val y1 (.o .i) p1, .val y1 (.o (.p (.o (.o .i)) .i)) t2, .val y1 (.o (.p (.o (.o .i)) .i)) out3, .val I .i x4, .val (.sl I) (.o .i) below5, .val I .i y6] ++ List.replicate 32 .u) K
noncomputable abbrev vaeq : Ex → St → Z3 := finish (A_zz50) S_zz50 Try.f105.results.toList
noncomputable abbrev vji (kX : St → Z3) : Y2 → Y2 → Z3 := fun (t2 out3 : Y2) => kX ([.u, .u, .val y1 (.o (.p (.o (.o .i)) .i)) t2, .val y1 (.o (.p (.o (.o .i)) .i)) out3] ++ List.replicate 35 .u)
noncomputable abbrev vit (kX : St → Z3) (kO : Nat → St → Z3) : Ex → St → Z3 := exK vaeq 0 ((A_zz50).shape 25) kX kO
noncomputable abbrev vtm (kX : St → Z3) : Y2 → Y2 → Y2 → Int → Y4 → Z3 := fun (p1 t2 out3 : Y2) (x4 : Int) (below5 : Y4) => kX ([.u, .val y1 (.o .i) p1, .val y1 (.o (.p (.o (.o .i)) .i)) t2, .val y1 (.o (.p (.o (.o .i)) .i)) out3, .val I .i x4, .val (.sl I) (.o .i) below5] ++ List.replicate 33 .u)
noncomputable abbrev vzd (kX : St → Z3) (kO : Nat → St → Z3) : Ex → St → Z3 := exK vaeq 2 ((A_zz50).shape 23) kX kO
theorem vbdw (N m : Nat) (kX : St → Z3) (kO : Nat → St → Z3) (p1 t2 out3 : Y2) (x4 : Int) (below5 : Y4) (y6 : Int) : vmn N (m + 1) (vzd kX kO) p1 t2 out3 x4 below5 y6 = vqe (vmn N m (vzd kX kO)) (vtm kX) p1 t2 out3 x4 below5 y6 := by kernel_rfl
theorem vagi (N : Nat) (kX : St → Z3) (kO : Nat → St → Z3) : ∀ (n : Nat) (p1 t2 out3 : Y2) (x4 : Int) (below5 : Y4) (y6 : Int), vmn N n (vzd kX kO) p1 t2 out3 x4 below5 y6 = vob N (vtm kX) n p1 t2 out3 x4 below5 y6
  | 0, _, _, _, _, _, _ => rfl
  | m + 1, p1, t2, out3, x4, below5, y6 => by
    have hrec : vmn N m (vzd kX kO) = (vob N (vtm kX) m) := (funext fun p1 => (funext fun t2 => (funext fun out3 => (funext fun x4 => (funext fun below5 => (funext fun y6 => vagi N kX kO m p1 t2 out3 x4 below5 y6))))))
    refine (vbdw N m kX kO p1 t2 out3 x4 below5 y6).trans ?_
    rw [hrec]
    rfl
noncomputable abbrev vaia (N m : Nat) (kX : St → Z3) (kO : Nat → St → Z3) : Ex → St → Z3 := (blockK 2 (seqK ((A_zz50).shape 23) (gated ((A_zz50).shape 500011).isSome N (run (A_zz50) N (codeAt Try.f105 [1, 1, 0, 1, 0, 0, 1, 0, 0, 1, 1]))) (blockK 1 (seqK ((A_zz50).shape 9) (gated ((A_zz50).shape 500004).isSome N (run (A_zz50) N (codeAt Try.f105 [1, 1, 0, 1, 0, 0, 1, 1]))) (iterK ((A_zz50).shape 6) (run (A_zz50) N (codeAt Try.f105 [1, 1, 0, 1, 0, 0])) m (vit kX kO))))))
noncomputable abbrev vamj (N m : Nat) (kX : St → Z3) (kO : Nat → St → Z3) : St → Z3 := fun st' => run (A_zz50) N (codeAt Try.f105 [1, 1, 0, 1, 0, 0, 1, 0, 0, 1, 1]) st' (blockK 1 (seqK ((A_zz50).shape 9) (gated ((A_zz50).shape 500004).isSome N (run (A_zz50) N (codeAt Try.f105 [1, 1, 0, 1, 0, 0, 1, 1]))) (iterK ((A_zz50).shape 6) (run (A_zz50) N (codeAt Try.f105 [1, 1, 0, 1, 0, 0])) m (vit kX kO))))
theorem vavj (N m : Nat) (kX : St → Z3) (kO : Nat → St → Z3) (p1 t2 out3 : Y2) (x4 : Int) (below5 : Y4) : vtm (vamj N m kX kO) p1 t2 out3 x4 below5 = vho (vey N m (vit kX kO)) p1 t2 out3 x4 below5 := by kernel_rfl
theorem vbln (N m : Nat) (kX : St → Z3) (kO : Nat → St → Z3) (recF : Y2 → Y2 → Y2 → Int → Z3) (hrec : vey N m (vit kX kO) = recF) (p1 t2 out3 : Y2) (x4 : Int) (below5 : Y4) (y6 : Int) : vmn N N (vaia N m kX kO) p1 t2 out3 x4 below5 y6 = vty N recF (vji kX) p1 t2 out3 x4 below5 y6 :=
  have h : vtm (vamj N m kX kO) = (vho recF) := (funext fun p1 => (funext fun t2 => (funext fun out3 => (funext fun x4 => (funext fun below5 => (vavj N m kX kO p1 t2 out3 x4 below5).trans (by rw [hrec]))))))
  ((vad (fun st => by kernel_rfl) (fun st => by kernel_rfl)).trans (vagi N (vamj N m kX kO) (fun j st => (vaia N m kX kO) (.exit j) st) N p1 t2 out3 x4 below5 y6)).trans (congrArg (fun k => vob N k N p1 t2 out3 x4 below5 y6) h)
theorem vbal (N m : Nat) (kX : St → Z3) (kO : Nat → St → Z3) (p1 t2 out3 : Y2) (x4 : Int) : vey N (m + 1) (vit kX kO) p1 t2 out3 x4 = vok (vmn N N (vaia N m kX kO)) (vji kX) p1 t2 out3 x4 := by kernel_rfl
theorem vacu (N : Nat) (kX : St → Z3) (kO : Nat → St → Z3) : ∀ (n : Nat) (p1 t2 out3 : Y2) (x4 : Int), vey N n (vit kX kO) p1 t2 out3 x4 = vkb N (vji kX) n p1 t2 out3 x4
  | 0, _, _, _, _ => rfl
  | m + 1, p1, t2, out3, x4 => by
    have hrec : vey N m (vit kX kO) = (vkb N (vji kX) m) := (funext fun p1 => (funext fun t2 => (funext fun out3 => (funext fun x4 => vacu N kX kO m p1 t2 out3 x4))))
    refine (vbal N m kX kO p1 t2 out3 x4).trans ?_
    rw [(funext fun p1 => (funext fun t2 => (funext fun out3 => (funext fun x4 => (funext fun below5 => (funext fun y6 => vbln N m kX kO (vkb N (vji kX) m) hrec p1 t2 out3 x4 below5 y6))))))]
    rfl
noncomputable abbrev vanc (N : Nat) : Ex → St → Z3 := (blockK 0 (seqK ((A_zz50).shape 25) (gated ((A_zz50).shape 500012).isSome N (run (A_zz50) N (codeAt Try.f105 [1, 1, 1]))) vaeq))
noncomputable abbrev vals (N : Nat) : St → Z3 := fun st' => run (A_zz50) N (codeAt Try.f105 [1, 1, 1]) st' vaeq
theorem vawh (N : Nat) (t2 out3 : Y2) : vji (vals N) t2 out3 = vdd t2 out3 := by kernel_rfl
theorem vbkf (N : Nat) (p1 t2 out3 : Y2) (x4 : Int) : vey N N (vanc N) p1 t2 out3 x4 = vamz N p1 t2 out3 x4 :=
  have h : vji (vals N) = (vdd) := (funext fun t2 => (funext fun out3 => vawh N t2 out3))
  ((vad (fun st => by kernel_rfl) (fun st => by kernel_rfl)).trans (vacu N (vals N) (fun j st => (vanc N) (.exit j) st) N p1 t2 out3 x4)).trans (congrArg (fun k => vkb N k N p1 t2 out3 x4) h)
theorem run0_zz50 (N : Nat) (x : (S_zz50).a.den) : runF (A_zz50) N Try.f105 S_zz50 x = (vaut (vey N N (vanc N)) x.1) := by kernel_rfl
theorem run_zz50 (N : Nat) (x : (S_zz50).a.den) : runF (A_zz50) N Try.f105 S_zz50 x = zz50 N x.1 := by
  refine (run0_zz50 N x).trans ?_
  rw [(funext fun p1 => (funext fun t2 => (funext fun out3 => (funext fun x4 => vbkf N p1 t2 out3 x4))))]
  rfl
theorem fn_zz50 : FnOk Try.prog 105 := ⟨_, Try.func105, by kernel_rfl, by kernel_rfl⟩
theorem good_zz50 : Gx.Good Try.prog 105 S_zz50 := vaa Try.func105 (of_decide_eq_true (by kernel_rfl)) fun x r h => ⟨A_zz50, big, vac tabOk, vab (show SigsOk Try.prog [(78, S_zz15)] from ⟨⟨fn_zz15, good_zz15⟩, trivial⟩), (run_zz50 big x).trans h⟩
def vkk (rec : Y2 → Y4 → Int → Z6) (k : Z6) (p2 : Y2) (low5 : Y4) (i9 : Int) : Z6 :=
  cond (decide (i9 < (low5.length : Int)))
  ((atI low5 i9).bind fun _ =>
  (low5[i9.toNat]?).bind fun xq4 =>
  (atI p2.1 xq4).bind fun xq5 =>
  (zz48 big low5 xq5).bind fun rq6 =>
  cond rq6.1
  ((atI low5 i9).bind fun _ =>
  (low5[i9.toNat]?).bind fun xq7 =>
  some (xq7, (())))
  (rec p2 low5 (IntKind.i64.wrap (i9 + (1 : Int)))))
  (k)
def vef : Z6 :=
  some ((-1 : Int), (()))
def vqh (rec : Y4 → Y2 → Y4 → Int → Bool → Int → Z6) (k : Y4 → Y2 → Y4 → Int → Bool → Z6) (some1 : Y4) (p2 : Y2) (low5 : Y4) (z6 : Int) (all7 : Bool) (i8 : Int) : Z6 :=
  cond (decide (i8 < (some1.length : Int)))
  (cond all7
  ((atI some1 i8).bind fun xq1 =>
  (zz15 p2 z6 xq1).bind fun rq2 =>
  rec some1 p2 low5 z6 rq2.1 (IntKind.i64.wrap (i8 + (1 : Int))))
  (rec some1 p2 low5 z6 false (IntKind.i64.wrap (i8 + (1 : Int)))))
  (k some1 p2 low5 z6 all7)
def vgw (rec : Y4 → Y2 → Y4 → Int → Z6) (some1 : Y4) (p2 : Y2) (low5 : Y4) (z6 : Int) (all7 : Bool) : Z6 :=
  cond all7
  ((appI low5 [z6]).bind fun xq3 =>
  rec some1 p2 xq3 (IntKind.i64.wrap (z6 + (1 : Int))))
  (rec some1 p2 low5 (IntKind.i64.wrap (z6 + (1 : Int))))
def vmr (L7 : Y4 → Y2 → Y4 → Int → Bool → Int → Z6) (k : Y2 → Y4 → Z6) (some1 : Y4) (p2 : Y2) (low5 : Y4) (z6 : Int) : Z6 :=
  cond (decide (z6 < (p2.1.length : Int)))
  (L7 some1 p2 low5 z6 true (0 : Int))
  (k p2 low5)
def vda (L13 : Y2 → Y4 → Int → Z6) (p2 : Y2) (low5 : Y4) : Z6 :=
  L13 p2 low5 (0 : Int)
def vaqw (L3 : Y4 → Y2 → Y4 → Int → Z6) (p_0 : Y2) (some_1 : Y4) : Z6 :=
  L3 some_1 p_0 [] (0 : Int)
def vnj (N : Nat) (k : Y4 → Y2 → Y4 → Int → Bool → Z6) : Nat → Y4 → Y2 → Y4 → Int → Bool → Int → Z6
  | 0, _, _, _, _, _, _ => none
  | m + 1, some1, p2, low5, z6, all7, i8 => vqh (vnj N k m) k some1 p2 low5 z6 all7 i8
def vsl (N : Nat) (rec : Y4 → Y2 → Y4 → Int → Z6) (k : Y2 → Y4 → Z6) (some1 : Y4) (p2 : Y2) (low5 : Y4) (z6 : Int) (all7 : Bool) (i8 : Int) : Z6 := vnj N (vgw rec) N some1 p2 low5 z6 all7 i8
def vfa (N : Nat) (k : Y2 → Y4 → Z6) : Nat → Y4 → Y2 → Y4 → Int → Z6
  | 0, _, _, _, _ => none
  | m + 1, some1, p2, low5, z6 => vmr (vsl N (vfa N k m) k) k some1 p2 low5 z6
def vfq (N : Nat) (k : Z6) : Nat → Y2 → Y4 → Int → Z6
  | 0, _, _, _ => none
  | m + 1, p2, low5, i9 => vkk (vfq N k m) k p2 low5 i9
def vbv (N : Nat) (p2 : Y2) (low5 : Y4) (i9 : Int) : Z6 := vfq N (vef) N p2 low5 i9
def vagm (N : Nat) (some1 : Y4) (p2 : Y2) (low5 : Y4) (z6 : Int) : Z6 := vfa N (vda (vbv N)) N some1 p2 low5 z6
def zz51 (N : Nat) (p_0 : Y2) (some_1 : Y4) : Z6 := vaqw (vagm N) p_0 some_1
def S_zz51 : Sig := { a := (.pair (.pair (.sl (.sl I)) .unit) (.pair (.sl I) .unit)), md := [0, 0], mf := [], m := .unit, r := I, rf := .i, f := fun x => zz51 big x.1 x.2.1 }
def A_zz51 : Cfg := mkCfg tab [(78, S_zz15), (126, S_zz48)] [(6, [.drop, .as (.sl I) .i, .as y1 (.o .i), .drop, .drop, .as (.sl I) (.o .i), .as I .i]), (14, [.drop, .as (.sl I) .i, .as y1 (.o .i), .drop, .drop, .as (.sl I) (.o .i), .as I .i, .as .bool .i, .as I .i]), (25, [.drop, .drop, .as y1 (.o .i), .drop, .drop, .as (.sl I) (.o .i)]), (26, [.drop, .drop, .as y1 (.o .i), .drop, .drop, .as (.sl I) (.o .i), .drop, .drop, .drop, .as I .i]), (21, [.drop, .as (.sl I) .i, .as y1 (.o .i), .drop, .drop, .as (.sl I) (.o .i), .as I .i, .as .bool .i]), (35, [])]
noncomputable def vgs (N n : Nat) (K : Ex → St → Z6) (some1 : Y4) (p2 : Y2) (low5 : Y4) (z6 : Int) : Z6 := iter ((A_zz51).shape 6) (run (A_zz51) N (codeAt Try.f106 [1, 1, 0, 1, 0, 0])) n ([.u, .val (.sl I) .i some1, .val y1 (.o .i) p2, .u, .u, .val (.sl I) (.o .i) low5, .val I .i z6] ++ List.replicate 52 .u) K
noncomputable def vou (N n : Nat) (K : Ex → St → Z6) (some1 : Y4) (p2 : Y2) (low5 : Y4) (z6 : Int) (all7 : Bool) (i8 : Int) : Z6 := iter ((A_zz51).shape 14) (run (A_zz51) N (codeAt Try.f106 [1, 1, 0, 1, 0, 0, 1, 0, 0, 1, 0, 1, 0, 0])) n ([.u, .val (.sl I) .i some1, .val y1 (.o .i) p2, .u, .u, .val (.sl I) (.o .i) low5, .val I .i z6, .val .bool .i all7, .val I .i i8] ++ List.replicate 50 .u) K
noncomputable def vjs (N n : Nat) (K : Ex → St → Z6) (p2 : Y2) (low5 : Y4) (i9 : Int) : Z6 := iter ((A_zz51).shape 26) (run (A_zz51) N (codeAt Try.f106 [1, 1, 1, 0, 1, 0, 0])) n ([.u, .u, .val y1 (.o .i) p2, .u, .u, .val (.sl I) (.o .i) low5, .u, .u, .u, .val I .i i9] ++ List.replicate 49 .u) K
noncomputable abbrev vqs : Ex → St → Z6 := finish (A_zz51) S_zz51 Try.f106.results.toList
noncomputable abbrev vga (kX : St → Z6) : Y2 → Y4 → Z6 := fun (p2 : Y2) (low5 : Y4) => kX ([.u, .u, .val y1 (.o .i) p2, .u, .u, .val (.sl I) (.o .i) low5] ++ List.replicate 53 .u)
noncomputable abbrev viq (kX : St → Z6) (kO : Nat → St → Z6) : Ex → St → Z6 := exK vqs 0 ((A_zz51).shape 25) kX kO
noncomputable abbrev vut (kX : St → Z6) : Y4 → Y2 → Y4 → Int → Bool → Z6 := fun (some1 : Y4) (p2 : Y2) (low5 : Y4) (z6 : Int) (all7 : Bool) => kX ([.u, .val (.sl I) .i some1, .val y1 (.o .i) p2, .u, .u, .val (.sl I) (.o .i) low5, .val I .i z6, .val .bool .i all7] ++ List.replicate 51 .u)
noncomputable abbrev vyq (kX : St → Z6) (kO : Nat → St → Z6) : Ex → St → Z6 := exK vqs 2 ((A_zz51).shape 21) kX kO
noncomputable abbrev vqr (kX : St → Z6) : Z6 := kX ([] ++ List.replicate 59 .u)
noncomputable abbrev vvw (kX : St → Z6) (kO : Nat → St → Z6) : Ex → St → Z6 := exK vqs 4 ((A_zz51).shape 35) kX kO
theorem vbag (N m : Nat) (kX : St → Z6) (kO : Nat → St → Z6) (some1 : Y4) (p2 : Y2) (low5 : Y4) (z6 : Int) (all7 : Bool) (i8 : Int) : vou N (m + 1) (vyq kX kO) some1 p2 low5 z6 all7 i8 = vqh (vou N m (vyq kX kO)) (vut kX) some1 p2 low5 z6 all7 i8 := by kernel_rfl
theorem vacp (N : Nat) (kX : St → Z6) (kO : Nat → St → Z6) : ∀ (n : Nat) (some1 : Y4) (p2 : Y2) (low5 : Y4) (z6 : Int) (all7 : Bool) (i8 : Int), vou N n (vyq kX kO) some1 p2 low5 z6 all7 i8 = vnj N (vut kX) n some1 p2 low5 z6 all7 i8
  | 0, _, _, _, _, _, _ => rfl
  | m + 1, some1, p2, low5, z6, all7, i8 => by
    have hrec : vou N m (vyq kX kO) = (vnj N (vut kX) m) := (funext fun some1 => (funext fun p2 => (funext fun low5 => (funext fun z6 => (funext fun all7 => (funext fun i8 => vacp N kX kO m some1 p2 low5 z6 all7 i8))))))
    refine (vbag N m kX kO some1 p2 low5 z6 all7 i8).trans ?_
    rw [hrec]
    rfl
noncomputable abbrev vaio (N m : Nat) (kX : St → Z6) (kO : Nat → St → Z6) : Ex → St → Z6 := (blockK 2 (seqK ((A_zz51).shape 21) (gated ((A_zz51).shape 500010).isSome N (run (A_zz51) N (codeAt Try.f106 [1, 1, 0, 1, 0, 0, 1, 0, 0, 1, 1]))) (blockK 1 (seqK ((A_zz51).shape 9) (gated ((A_zz51).shape 500004).isSome N (run (A_zz51) N (codeAt Try.f106 [1, 1, 0, 1, 0, 0, 1, 1]))) (iterK ((A_zz51).shape 6) (run (A_zz51) N (codeAt Try.f106 [1, 1, 0, 1, 0, 0])) m (viq kX kO))))))
noncomputable abbrev valm (N m : Nat) (kX : St → Z6) (kO : Nat → St → Z6) : St → Z6 := fun st' => run (A_zz51) N (codeAt Try.f106 [1, 1, 0, 1, 0, 0, 1, 0, 0, 1, 1]) st' (blockK 1 (seqK ((A_zz51).shape 9) (gated ((A_zz51).shape 500004).isSome N (run (A_zz51) N (codeAt Try.f106 [1, 1, 0, 1, 0, 0, 1, 1]))) (iterK ((A_zz51).shape 6) (run (A_zz51) N (codeAt Try.f106 [1, 1, 0, 1, 0, 0])) m (viq kX kO))))
theorem vaxk (N m : Nat) (kX : St → Z6) (kO : Nat → St → Z6) (some1 : Y4) (p2 : Y2) (low5 : Y4) (z6 : Int) (all7 : Bool) : vut (valm N m kX kO) some1 p2 low5 z6 all7 = vgw (vgs N m (viq kX kO)) some1 p2 low5 z6 all7 := by kernel_rfl
theorem vbkx (N m : Nat) (kX : St → Z6) (kO : Nat → St → Z6) (recF : Y4 → Y2 → Y4 → Int → Z6) (hrec : vgs N m (viq kX kO) = recF) (some1 : Y4) (p2 : Y2) (low5 : Y4) (z6 : Int) (all7 : Bool) (i8 : Int) : vou N N (vaio N m kX kO) some1 p2 low5 z6 all7 i8 = vsl N recF (vga kX) some1 p2 low5 z6 all7 i8 :=
  have h : vut (valm N m kX kO) = (vgw recF) := (funext fun some1 => (funext fun p2 => (funext fun low5 => (funext fun z6 => (funext fun all7 => (vaxk N m kX kO some1 p2 low5 z6 all7).trans (by rw [hrec]))))))
  ((vad (fun st => by kernel_rfl) (fun st => by kernel_rfl)).trans (vacp N (valm N m kX kO) (fun j st => (vaio N m kX kO) (.exit j) st) N some1 p2 low5 z6 all7 i8)).trans (congrArg (fun k => vnj N k N some1 p2 low5 z6 all7 i8) h)
theorem vbbx (N m : Nat) (kX : St → Z6) (kO : Nat → St → Z6) (some1 : Y4) (p2 : Y2) (low5 : Y4) (z6 : Int) : vgs N (m + 1) (viq kX kO) some1 p2 low5 z6 = vmr (vou N N (vaio N m kX kO)) (vga kX) some1 p2 low5 z6 := by kernel_rfl
theorem vaeu (N : Nat) (kX : St → Z6) (kO : Nat → St → Z6) : ∀ (n : Nat) (some1 : Y4) (p2 : Y2) (low5 : Y4) (z6 : Int), vgs N n (viq kX kO) some1 p2 low5 z6 = vfa N (vga kX) n some1 p2 low5 z6
  | 0, _, _, _, _ => rfl
  | m + 1, some1, p2, low5, z6 => by
    have hrec : vgs N m (viq kX kO) = (vfa N (vga kX) m) := (funext fun some1 => (funext fun p2 => (funext fun low5 => (funext fun z6 => vaeu N kX kO m some1 p2 low5 z6))))
    refine (vbbx N m kX kO some1 p2 low5 z6).trans ?_
    rw [(funext fun some1 => (funext fun p2 => (funext fun low5 => (funext fun z6 => (funext fun all7 => (funext fun i8 => vbkx N m kX kO (vfa N (vga kX) m) hrec some1 p2 low5 z6 all7 i8))))))]
    rfl
noncomputable abbrev valk (N : Nat) : Ex → St → Z6 := (blockK 0 (seqK ((A_zz51).shape 25) (gated ((A_zz51).shape 500012).isSome N (run (A_zz51) N (codeAt Try.f106 [1, 1, 1]))) vqs))
theorem vaxh (N m : Nat) (kX : St → Z6) (kO : Nat → St → Z6) (p2 : Y2) (low5 : Y4) (i9 : Int) : vjs N (m + 1) (vvw kX kO) p2 low5 i9 = vkk (vjs N m (vvw kX kO)) (vqr kX) p2 low5 i9 := by kernel_rfl
theorem vaaf (N : Nat) (kX : St → Z6) (kO : Nat → St → Z6) : ∀ (n : Nat) (p2 : Y2) (low5 : Y4) (i9 : Int), vjs N n (vvw kX kO) p2 low5 i9 = vfq N (vqr kX) n p2 low5 i9
  | 0, _, _, _ => rfl
  | m + 1, p2, low5, i9 => by
    have hrec : vjs N m (vvw kX kO) = (vfq N (vqr kX) m) := (funext fun p2 => (funext fun low5 => (funext fun i9 => vaaf N kX kO m p2 low5 i9)))
    refine (vaxh N m kX kO p2 low5 i9).trans ?_
    rw [hrec]
    rfl
noncomputable abbrev vacc (N : Nat) : Ex → St → Z6 := (blockK 4 (seqK ((A_zz51).shape 35) (gated ((A_zz51).shape 500017).isSome N (run (A_zz51) N (codeAt Try.f106 [1, 1, 1, 1]))) vqs))
noncomputable abbrev vacb (N : Nat) : St → Z6 := fun st' => run (A_zz51) N (codeAt Try.f106 [1, 1, 1, 1]) st' vqs
theorem vaqr (N : Nat) : vqr (vacb N) = vef := by kernel_rfl
theorem vbfo (N : Nat) (p2 : Y2) (low5 : Y4) (i9 : Int) : vjs N N (vacc N) p2 low5 i9 = vbv N p2 low5 i9 :=
  have h : vqr (vacb N) = (vef) := vaqr N
  ((vad (fun st => by kernel_rfl) (fun st => by kernel_rfl)).trans (vaaf N (vacb N) (fun j st => (vacc N) (.exit j) st) N p2 low5 i9)).trans (congrArg (fun k => vfq N k N p2 low5 i9) h)
noncomputable abbrev valo (N : Nat) : St → Z6 := fun st' => run (A_zz51) N (codeAt Try.f106 [1, 1, 1]) st' vqs
theorem vaxf (N : Nat) (p2 : Y2) (low5 : Y4) : vga (valo N) p2 low5 = vda (vjs N N (vacc N)) p2 low5 := by kernel_rfl
theorem vbix (N : Nat) (some1 : Y4) (p2 : Y2) (low5 : Y4) (z6 : Int) : vgs N N (valk N) some1 p2 low5 z6 = vagm N some1 p2 low5 z6 :=
  have h : vga (valo N) = (vda (vbv N)) := (funext fun p2 => (funext fun low5 => (vaxf N p2 low5).trans (by rw [(funext fun p2 => (funext fun low5 => (funext fun i9 => vbfo N p2 low5 i9)))])))
  ((vad (fun st => by kernel_rfl) (fun st => by kernel_rfl)).trans (vaeu N (valo N) (fun j st => (valk N) (.exit j) st) N some1 p2 low5 z6)).trans (congrArg (fun k => vfa N k N some1 p2 low5 z6) h)
theorem run0_zz51 (N : Nat) (x : (S_zz51).a.den) : runF (A_zz51) N Try.f106 S_zz51 x = (vaqw (vgs N N (valk N)) x.1 x.2.1) := by kernel_rfl
theorem run_zz51 (N : Nat) (x : (S_zz51).a.den) : runF (A_zz51) N Try.f106 S_zz51 x = zz51 N x.1 x.2.1 := by
  refine (run0_zz51 N x).trans ?_
  rw [(funext fun some1 => (funext fun p2 => (funext fun low5 => (funext fun z6 => vbix N some1 p2 low5 z6))))]
  rfl
theorem fn_zz51 : FnOk Try.prog 106 := ⟨_, Try.func106, by kernel_rfl, by kernel_rfl⟩
theorem good_zz51 : Gx.Good Try.prog 106 S_zz51 := vaa Try.func106 (of_decide_eq_true (by kernel_rfl)) fun x r h => ⟨A_zz51, big, vac tabOk, vab (show SigsOk Try.prog [(78, S_zz15), (126, S_zz48)] from ⟨⟨fn_zz15, good_zz15⟩, ⟨fn_zz48, good_zz48⟩, trivial⟩), (run_zz51 big x).trans h⟩
def vos (rec : Y2 → Y2 → Int → Int → Z0) (k : Y2 → Y2 → Int → Z0) (p1 dual3 : Y2) (x4 y5 : Int) : Z0 :=
  cond (decide (y5 < x4))
  ((zz51 big p1 [x4, y5]).bind fun rq3 =>
  cond (decide (rq3.1 < (0 : Int)))
  (some (false, (())))
  ((zz51 big dual3 [x4, y5]).bind fun rq4 =>
  cond (decide (rq4.1 < (0 : Int)))
  (some (false, (())))
  (rec p1 dual3 x4 (IntKind.i64.wrap (y5 + (1 : Int))))))
  (k p1 dual3 x4)
def vfr (rec : Y2 → Y2 → Int → Z0) (p1 dual3 : Y2) (x4 : Int) : Z0 :=
  rec p1 dual3 (IntKind.i64.wrap (x4 + (1 : Int)))
def voh (L8 : Y2 → Y2 → Int → Int → Z0) (k : Z0) (p1 dual3 : Y2) (x4 : Int) : Z0 :=
  cond (decide (x4 < (p1.1.length : Int)))
  (L8 p1 dual3 x4 (0 : Int))
  (k)
def vdi : Z0 :=
  some (true, (()))
def vapi (L5 : Y2 → Y2 → Int → Z0) (p_0 : Y2) : Z0 :=
  (zz49 big p_0).bind fun rq1 =>
  cond (!rq1.1)
  (some (false, (())))
  (cond (decide ((p_0.1.length : Int) = (0 : Int)))
  (some (false, (())))
  ((zz50 big p_0).bind fun rq2 =>
  L5 p_0 rq2.1 (0 : Int)))
def vnp (N : Nat) (k : Y2 → Y2 → Int → Z0) : Nat → Y2 → Y2 → Int → Int → Z0
  | 0, _, _, _, _ => none
  | m + 1, p1, dual3, x4, y5 => vos (vnp N k m) k p1 dual3 x4 y5
def vvg (N : Nat) (rec : Y2 → Y2 → Int → Z0) (k : Z0) (p1 dual3 : Y2) (x4 y5 : Int) : Z0 := vnp N (vfr rec) N p1 dual3 x4 y5
def vkd (N : Nat) (k : Z0) : Nat → Y2 → Y2 → Int → Z0
  | 0, _, _, _ => none
  | m + 1, p1, dual3, x4 => voh (vvg N (vkd N k m) k) k p1 dual3 x4
def valf (N : Nat) (p1 dual3 : Y2) (x4 : Int) : Z0 := vkd N (vdi) N p1 dual3 x4
def zz52 (N : Nat) (p_0 : Y2) : Z0 := vapi (valf N) p_0
def S_zz52 : Sig := { a := (.pair (.pair (.sl (.sl I)) .unit) .unit), md := [0], mf := [], m := .unit, r := .bool, rf := .i, f := fun x => zz52 big x.1 }
def A_zz52 : Cfg := mkCfg tab [(104, S_zz49), (105, S_zz50), (106, S_zz51)] [(10, [.drop, .as y1 (.o .i), .drop, .as y1 (.o (.p (.o (.o .i)) .i)), .as I .i]), (16, [.drop, .as y1 (.o .i), .drop, .as y1 (.o (.p (.o (.o .i)) .i)), .as I .i, .as I .i]), (25, []), (13, [.drop, .as y1 (.o .i), .drop, .as y1 (.o (.p (.o (.o .i)) .i)), .as I .i])]
noncomputable def viz (N n : Nat) (K : Ex → St → Z0) (p1 dual3 : Y2) (x4 : Int) : Z0 := iter ((A_zz52).shape 10) (run (A_zz52) N (codeAt Try.f55 [1, 1, 1, 0, 1, 0, 0])) n ([.u, .val y1 (.o .i) p1, .u, .val y1 (.o (.p (.o (.o .i)) .i)) dual3, .val I .i x4] ++ List.replicate 38 .u) K
noncomputable def vne (N n : Nat) (K : Ex → St → Z0) (p1 dual3 : Y2) (x4 y5 : Int) : Z0 := iter ((A_zz52).shape 16) (run (A_zz52) N (codeAt Try.f55 [1, 1, 1, 0, 1, 0, 0, 1, 0, 0, 1, 0, 0])) n ([.u, .val y1 (.o .i) p1, .u, .val y1 (.o (.p (.o (.o .i)) .i)) dual3, .val I .i x4, .val I .i y5] ++ List.replicate 37 .u) K
noncomputable abbrev vafm : Ex → St → Z0 := finish (A_zz52) S_zz52 Try.f55.results.toList
noncomputable abbrev vjn (kX : St → Z0) : Z0 := kX ([] ++ List.replicate 43 .u)
noncomputable abbrev vgy (kX : St → Z0) (kO : Nat → St → Z0) : Ex → St → Z0 := exK vafm 0 ((A_zz52).shape 25) kX kO
noncomputable abbrev vtp (kX : St → Z0) : Y2 → Y2 → Int → Z0 := fun (p1 dual3 : Y2) (x4 : Int) => kX ([.u, .val y1 (.o .i) p1, .u, .val y1 (.o (.p (.o (.o .i)) .i)) dual3, .val I .i x4] ++ List.replicate 38 .u)
noncomputable abbrev vya (kX : St → Z0) (kO : Nat → St → Z0) : Ex → St → Z0 := exK vafm 2 ((A_zz52).shape 13) kX kO
theorem vbbc (N m : Nat) (kX : St → Z0) (kO : Nat → St → Z0) (p1 dual3 : Y2) (x4 y5 : Int) : vne N (m + 1) (vya kX kO) p1 dual3 x4 y5 = vos (vne N m (vya kX kO)) (vtp kX) p1 dual3 x4 y5 := by kernel_rfl
theorem vacq (N : Nat) (kX : St → Z0) (kO : Nat → St → Z0) : ∀ (n : Nat) (p1 dual3 : Y2) (x4 y5 : Int), vne N n (vya kX kO) p1 dual3 x4 y5 = vnp N (vtp kX) n p1 dual3 x4 y5
  | 0, _, _, _, _ => rfl
  | m + 1, p1, dual3, x4, y5 => by
    have hrec : vne N m (vya kX kO) = (vnp N (vtp kX) m) := (funext fun p1 => (funext fun dual3 => (funext fun x4 => (funext fun y5 => vacq N kX kO m p1 dual3 x4 y5))))
    refine (vbbc N m kX kO p1 dual3 x4 y5).trans ?_
    rw [hrec]
    rfl
noncomputable abbrev vake (N m : Nat) (kX : St → Z0) (kO : Nat → St → Z0) : Ex → St → Z0 := (blockK 2 (blockK 1 (seqK ((A_zz52).shape 13) (gated ((A_zz52).shape 500006).isSome N (run (A_zz52) N (codeAt Try.f55 [1, 1, 1, 0, 1, 0, 0, 1, 1]))) (iterK ((A_zz52).shape 10) (run (A_zz52) N (codeAt Try.f55 [1, 1, 1, 0, 1, 0, 0])) m (vgy kX kO)))))
noncomputable abbrev vajq (N m : Nat) (kX : St → Z0) (kO : Nat → St → Z0) : St → Z0 := fun st' => run (A_zz52) N (codeAt Try.f55 [1, 1, 1, 0, 1, 0, 0, 1, 1]) st' (iterK ((A_zz52).shape 10) (run (A_zz52) N (codeAt Try.f55 [1, 1, 1, 0, 1, 0, 0])) m (vgy kX kO))
theorem vayk (N m : Nat) (kX : St → Z0) (kO : Nat → St → Z0) (p1 dual3 : Y2) (x4 : Int) : vtp (vajq N m kX kO) p1 dual3 x4 = vfr (viz N m (vgy kX kO)) p1 dual3 x4 := by kernel_rfl
theorem vblt (N m : Nat) (kX : St → Z0) (kO : Nat → St → Z0) (recF : Y2 → Y2 → Int → Z0) (hrec : viz N m (vgy kX kO) = recF) (p1 dual3 : Y2) (x4 y5 : Int) : vne N N (vake N m kX kO) p1 dual3 x4 y5 = vvg N recF (vjn kX) p1 dual3 x4 y5 :=
  have h : vtp (vajq N m kX kO) = (vfr recF) := (funext fun p1 => (funext fun dual3 => (funext fun x4 => (vayk N m kX kO p1 dual3 x4).trans (by rw [hrec]))))
  ((vad (fun st => by kernel_rfl) (fun st => by kernel_rfl)).trans (vacq N (vajq N m kX kO) (fun j st => (vake N m kX kO) (.exit j) st) N p1 dual3 x4 y5)).trans (congrArg (fun k => vnp N k N p1 dual3 x4 y5) h)
theorem vbbl (N m : Nat) (kX : St → Z0) (kO : Nat → St → Z0) (p1 dual3 : Y2) (x4 : Int) : viz N (m + 1) (vgy kX kO) p1 dual3 x4 = voh (vne N N (vake N m kX kO)) (vjn kX) p1 dual3 x4 := by kernel_rfl
theorem vach (N : Nat) (kX : St → Z0) (kO : Nat → St → Z0) : ∀ (n : Nat) (p1 dual3 : Y2) (x4 : Int), viz N n (vgy kX kO) p1 dual3 x4 = vkd N (vjn kX) n p1 dual3 x4
  | 0, _, _, _ => rfl
  | m + 1, p1, dual3, x4 => by
    have hrec : viz N m (vgy kX kO) = (vkd N (vjn kX) m) := (funext fun p1 => (funext fun dual3 => (funext fun x4 => vach N kX kO m p1 dual3 x4)))
    refine (vbbl N m kX kO p1 dual3 x4).trans ?_
    rw [(funext fun p1 => (funext fun dual3 => (funext fun x4 => (funext fun y5 => vblt N m kX kO (vkd N (vjn kX) m) hrec p1 dual3 x4 y5))))]
    rfl
noncomputable abbrev vaij (N : Nat) : Ex → St → Z0 := (blockK 0 (seqK ((A_zz52).shape 25) (gated ((A_zz52).shape 500012).isSome N (run (A_zz52) N (codeAt Try.f55 [1, 1, 1, 1]))) vafm))
noncomputable abbrev vahd (N : Nat) : St → Z0 := fun st' => run (A_zz52) N (codeAt Try.f55 [1, 1, 1, 1]) st' vafm
theorem vaxo (N : Nat) : vjn (vahd N) = vdi := by kernel_rfl
theorem vbkc (N : Nat) (p1 dual3 : Y2) (x4 : Int) : viz N N (vaij N) p1 dual3 x4 = valf N p1 dual3 x4 :=
  have h : vjn (vahd N) = (vdi) := vaxo N
  ((vad (fun st => by kernel_rfl) (fun st => by kernel_rfl)).trans (vach N (vahd N) (fun j st => (vaij N) (.exit j) st) N p1 dual3 x4)).trans (congrArg (fun k => vkd N k N p1 dual3 x4) h)
theorem run0_zz52 (N : Nat) (x : (S_zz52).a.den) : runF (A_zz52) N Try.f55 S_zz52 x = (vapi (viz N N (vaij N)) x.1) := by kernel_rfl
theorem run_zz52 (N : Nat) (x : (S_zz52).a.den) : runF (A_zz52) N Try.f55 S_zz52 x = zz52 N x.1 := by
  refine (run0_zz52 N x).trans ?_
  rw [(funext fun p1 => (funext fun dual3 => (funext fun x4 => vbkc N p1 dual3 x4)))]
  rfl
theorem fn_zz52 : FnOk Try.prog 55 := ⟨_, Try.func55, by kernel_rfl, by kernel_rfl⟩
theorem good_zz52 : Gx.Good Try.prog 55 S_zz52 := vaa Try.func55 (of_decide_eq_true (by kernel_rfl)) fun x r h => ⟨A_zz52, big, vac tabOk, vab (show SigsOk Try.prog [(104, S_zz49), (105, S_zz50), (106, S_zz51)] from ⟨⟨fn_zz49, good_zz49⟩, ⟨fn_zz50, good_zz50⟩, ⟨fn_zz51, good_zz51⟩, trivial⟩), (run_zz52 big x).trans h⟩
def vbgy (p_0 : Y2) : Z6 :=
  (zz50 big p_0).bind fun rq1 =>
  (zz51 big rq1.1 []).bind fun rq2 =>
  some (rq2.1, (()))
def zz53 (p_0 : Y2) : Z6 := vbgy p_0
def S_zz53 : Sig := { a := (.pair (.pair (.sl (.sl I)) .unit) .unit), md := [0], mf := [], m := .unit, r := I, rf := .i, f := fun x => zz53 x.1 }
def A_zz53 : Cfg := mkCfg tab [(105, S_zz50), (106, S_zz51)] []
theorem run_zz53 (N : Nat) (x : (S_zz53).a.den) : runF (A_zz53) N Try.f65 S_zz53 x = zz53 x.1 := by kernel_rfl
theorem fn_zz53 : FnOk Try.prog 65 := ⟨_, Try.func65, by kernel_rfl, by kernel_rfl⟩
theorem good_zz53 : Gx.Good Try.prog 65 S_zz53 := vaa Try.func65 (of_decide_eq_true (by kernel_rfl)) fun x r h => ⟨A_zz53, big, vac tabOk, vab (show SigsOk Try.prog [(105, S_zz50), (106, S_zz51)] from ⟨⟨fn_zz50, good_zz50⟩, ⟨fn_zz51, good_zz51⟩, trivial⟩), (run_zz53 big x).trans h⟩
def vbhp (p_0 : Y2) : Z6 :=
  (zz51 big p_0 []).bind fun rq1 =>
  some (rq1.1, (()))
def zz54 (p_0 : Y2) : Z6 := vbhp p_0
def S_zz54 : Sig := { a := (.pair (.pair (.sl (.sl I)) .unit) .unit), md := [0], mf := [], m := .unit, r := I, rf := .i, f := fun x => zz54 x.1 }
def A_zz54 : Cfg := mkCfg tab [(106, S_zz51)] []
theorem run_zz54 (N : Nat) (x : (S_zz54).a.den) : runF (A_zz54) N Try.f66 S_zz54 x = zz54 x.1 := by kernel_rfl
theorem fn_zz54 : FnOk Try.prog 66 := ⟨_, Try.func66, by kernel_rfl, by kernel_rfl⟩
theorem good_zz54 : Gx.Good Try.prog 66 S_zz54 := vaa Try.func66 (of_decide_eq_true (by kernel_rfl)) fun x r h => ⟨A_zz54, big, vac tabOk, vab (show SigsOk Try.prog [(106, S_zz51)] from ⟨⟨fn_zz51, good_zz51⟩, trivial⟩), (run_zz54 big x).trans h⟩
def vbhx (p_0 : Y2) (x_1 y_2 : Int) : Z6 :=
  (zz51 big p_0 [x_1, y_2]).bind fun rq1 =>
  some (rq1.1, (()))
def zz55 (p_0 : Y2) (x_1 y_2 : Int) : Z6 := vbhx p_0 x_1 y_2
def S_zz55 : Sig := { a := (.pair (.pair (.sl (.sl I)) .unit) (.pair I (.pair I .unit))), md := [0, 0, 0], mf := [], m := .unit, r := I, rf := .i, f := fun x => zz55 x.1 x.2.1 x.2.2.1 }
def A_zz55 : Cfg := mkCfg tab [(106, S_zz51)] []
theorem run_zz55 (N : Nat) (x : (S_zz55).a.den) : runF (A_zz55) N Try.f84 S_zz55 x = zz55 x.1 x.2.1 x.2.2.1 := by kernel_rfl
theorem fn_zz55 : FnOk Try.prog 84 := ⟨_, Try.func84, by kernel_rfl, by kernel_rfl⟩
theorem good_zz55 : Gx.Good Try.prog 84 S_zz55 := vaa Try.func84 (of_decide_eq_true (by kernel_rfl)) fun x r h => ⟨A_zz55, big, vac tabOk, vab (show SigsOk Try.prog [(106, S_zz51)] from ⟨⟨fn_zz51, good_zz51⟩, trivial⟩), (run_zz55 big x).trans h⟩
def vbeb (p_0 : Y2) (x_1 y_2 : Int) : Z6 :=
  (zz50 big p_0).bind fun rq1 =>
  (zz51 big rq1.1 [x_1, y_2]).bind fun rq2 =>
  some (rq2.1, (()))
def zz56 (p_0 : Y2) (x_1 y_2 : Int) : Z6 := vbeb p_0 x_1 y_2
def S_zz56 : Sig := { a := (.pair (.pair (.sl (.sl I)) .unit) (.pair I (.pair I .unit))), md := [0, 0, 0], mf := [], m := .unit, r := I, rf := .i, f := fun x => zz56 x.1 x.2.1 x.2.2.1 }
def A_zz56 : Cfg := mkCfg tab [(105, S_zz50), (106, S_zz51)] []
theorem run_zz56 (N : Nat) (x : (S_zz56).a.den) : runF (A_zz56) N Try.f85 S_zz56 x = zz56 x.1 x.2.1 x.2.2.1 := by kernel_rfl
theorem fn_zz56 : FnOk Try.prog 85 := ⟨_, Try.func85, by kernel_rfl, by kernel_rfl⟩
theorem good_zz56 : Gx.Good Try.prog 85 S_zz56 := vaa Try.func85 (of_decide_eq_true (by kernel_rfl)) fun x r h => ⟨A_zz56, big, vac tabOk, vab (show SigsOk Try.prog [(105, S_zz50), (106, S_zz51)] from ⟨⟨fn_zz50, good_zz50⟩, ⟨fn_zz51, good_zz51⟩, trivial⟩), (run_zz56 big x).trans h⟩
def vmz (rec : Int → Int → Int → Y2 → Y4 → Int → Z5) (k : Y4 → Z5) (x1 y2 z3 : Int) (p4 : Y2) (out9 : Y4) (w10 : Int) : Z5 :=
  cond (decide (w10 < (p4.1.length : Int)))
  ((zz55 p4 y2 w10).bind fun rq1 =>
  cond (decide (rq1.1 = x1))
  ((zz56 p4 y2 w10).bind fun rq2 =>
  cond (decide (rq2.1 = z3))
  ((appI out9 [w10]).bind fun xq3 =>
  rec x1 y2 z3 p4 xq3 (IntKind.i64.wrap (w10 + (1 : Int))))
  (rec x1 y2 z3 p4 out9 (IntKind.i64.wrap (w10 + (1 : Int)))))
  (rec x1 y2 z3 p4 out9 (IntKind.i64.wrap (w10 + (1 : Int)))))
  (k out9)
def vfx (out9 : Y4) : Z5 :=
  some (out9, (()))
def vasj (L3 : Int → Int → Int → Y2 → Y4 → Int → Z5) (p_0 : Y2) (x_1 y_2 z_3 : Int) : Z5 :=
  L3 x_1 y_2 z_3 p_0 [] (0 : Int)
def vmh (N : Nat) (k : Y4 → Z5) : Nat → Int → Int → Int → Y2 → Y4 → Int → Z5
  | 0, _, _, _, _, _, _ => none
  | m + 1, x1, y2, z3, p4, out9, w10 => vmz (vmh N k m) k x1 y2 z3 p4 out9 w10
def vakx (N : Nat) (x1 y2 z3 : Int) (p4 : Y2) (out9 : Y4) (w10 : Int) : Z5 := vmh N (vfx) N x1 y2 z3 p4 out9 w10
def zz57 (N : Nat) (p_0 : Y2) (x_1 y_2 z_3 : Int) : Z5 := vasj (vakx N) p_0 x_1 y_2 z_3
def S_zz57 : Sig := { a := (.pair (.pair (.sl (.sl I)) .unit) (.pair I (.pair I (.pair I .unit)))), md := [0, 0, 0, 0], mf := [], m := .unit, r := (.sl I), rf := (.o .i), f := fun x => zz57 big x.1 x.2.1 x.2.2.1 x.2.2.2.1 }
def A_zz57 : Cfg := mkCfg tab [(84, S_zz55), (85, S_zz56)] [(6, [.drop, .as I .i, .as I .i, .as I .i, .as y1 (.o .i), .drop, .drop, .drop, .drop, .as (.sl I) (.o .i), .as I .i]), (15, [.drop, .drop, .drop, .drop, .drop, .drop, .drop, .drop, .drop, .as (.sl I) (.o .i)])]
noncomputable def vpz (N n : Nat) (K : Ex → St → Z5) (x1 y2 z3 : Int) (p4 : Y2) (out9 : Y4) (w10 : Int) : Z5 := iter ((A_zz57).shape 6) (run (A_zz57) N (codeAt Try.f64 [1, 1, 0, 1, 0, 0])) n ([.u, .val I .i x1, .val I .i y2, .val I .i z3, .val y1 (.o .i) p4, .u, .u, .u, .u, .val (.sl I) (.o .i) out9, .val I .i w10] ++ List.replicate 27 .u) K
noncomputable abbrev vaqu : Ex → St → Z5 := finish (A_zz57) S_zz57 Try.f64.results.toList
noncomputable abbrev vtg (kX : St → Z5) : Y4 → Z5 := fun (out9 : Y4) => kX ([.u, .u, .u, .u, .u, .u, .u, .u, .u, .val (.sl I) (.o .i) out9] ++ List.replicate 28 .u)
noncomputable abbrev vzb (kX : St → Z5) (kO : Nat → St → Z5) : Ex → St → Z5 := exK vaqu 0 ((A_zz57).shape 15) kX kO
theorem vbbs (N m : Nat) (kX : St → Z5) (kO : Nat → St → Z5) (x1 y2 z3 : Int) (p4 : Y2) (out9 : Y4) (w10 : Int) : vpz N (m + 1) (vzb kX kO) x1 y2 z3 p4 out9 w10 = vmz (vpz N m (vzb kX kO)) (vtg kX) x1 y2 z3 p4 out9 w10 := by kernel_rfl
theorem vaeb (N : Nat) (kX : St → Z5) (kO : Nat → St → Z5) : ∀ (n : Nat) (x1 y2 z3 : Int) (p4 : Y2) (out9 : Y4) (w10 : Int), vpz N n (vzb kX kO) x1 y2 z3 p4 out9 w10 = vmh N (vtg kX) n x1 y2 z3 p4 out9 w10
  | 0, _, _, _, _, _, _ => rfl
  | m + 1, x1, y2, z3, p4, out9, w10 => by
    have hrec : vpz N m (vzb kX kO) = (vmh N (vtg kX) m) := (funext fun x1 => (funext fun y2 => (funext fun z3 => (funext fun p4 => (funext fun out9 => (funext fun w10 => vaeb N kX kO m x1 y2 z3 p4 out9 w10))))))
    refine (vbbs N m kX kO x1 y2 z3 p4 out9 w10).trans ?_
    rw [hrec]
    rfl
noncomputable abbrev vagp (N : Nat) : Ex → St → Z5 := (blockK 0 (seqK ((A_zz57).shape 15) (gated ((A_zz57).shape 500007).isSome N (run (A_zz57) N (codeAt Try.f64 [1, 1, 1]))) vaqu))
noncomputable abbrev vakj (N : Nat) : St → Z5 := fun st' => run (A_zz57) N (codeAt Try.f64 [1, 1, 1]) st' vaqu
theorem vaxx (N : Nat) (out9 : Y4) : vtg (vakj N) out9 = vfx out9 := by kernel_rfl
theorem vbim (N : Nat) (x1 y2 z3 : Int) (p4 : Y2) (out9 : Y4) (w10 : Int) : vpz N N (vagp N) x1 y2 z3 p4 out9 w10 = vakx N x1 y2 z3 p4 out9 w10 :=
  have h : vtg (vakj N) = (vfx) := (funext fun out9 => vaxx N out9)
  ((vad (fun st => by kernel_rfl) (fun st => by kernel_rfl)).trans (vaeb N (vakj N) (fun j st => (vagp N) (.exit j) st) N x1 y2 z3 p4 out9 w10)).trans (congrArg (fun k => vmh N k N x1 y2 z3 p4 out9 w10) h)
theorem run0_zz57 (N : Nat) (x : (S_zz57).a.den) : runF (A_zz57) N Try.f64 S_zz57 x = (vasj (vpz N N (vagp N)) x.1 x.2.1 x.2.2.1 x.2.2.2.1) := by kernel_rfl
theorem run_zz57 (N : Nat) (x : (S_zz57).a.den) : runF (A_zz57) N Try.f64 S_zz57 x = zz57 N x.1 x.2.1 x.2.2.1 x.2.2.2.1 := by
  refine (run0_zz57 N x).trans ?_
  rw [(funext fun x1 => (funext fun y2 => (funext fun z3 => (funext fun p4 => (funext fun out9 => (funext fun w10 => vbim N x1 y2 z3 p4 out9 w10))))))]
  rfl
theorem fn_zz57 : FnOk Try.prog 64 := ⟨_, Try.func64, by kernel_rfl, by kernel_rfl⟩
theorem good_zz57 : Gx.Good Try.prog 64 S_zz57 := vaa Try.func64 (of_decide_eq_true (by kernel_rfl)) fun x r h => ⟨A_zz57, big, vac tabOk, vab (show SigsOk Try.prog [(84, S_zz55), (85, S_zz56)] from ⟨⟨fn_zz55, good_zz55⟩, ⟨fn_zz56, good_zz56⟩, trivial⟩), (run_zz57 big x).trans h⟩
def vmw (rec : Int → Int → Y2 → Int → Z0) (k : Z0) (x1 y2 : Int) (p3 : Y2) (z7 : Int) : Z0 :=
  cond (decide (z7 < (p3.1.length : Int)))
  ((zz55 p3 z7 x1).bind fun rq1 =>
  (zz55 p3 z7 y2).bind fun rq2 =>
  (zz56 p3 rq1.1 rq2.1).bind fun rq3 =>
  cond (decide (rq3.1 ≠ z7))
  (some (false, (())))
  ((zz56 p3 z7 x1).bind fun rq4 =>
  (zz56 p3 z7 y2).bind fun rq5 =>
  (zz55 p3 rq4.1 rq5.1).bind fun rq6 =>
  cond (decide (rq6.1 ≠ z7))
  (some (false, (())))
  (rec x1 y2 p3 (IntKind.i64.wrap (z7 + (1 : Int))))))
  (k)
def vjf : Z0 :=
  some (true, (()))
def varc (L2 : Int → Int → Y2 → Int → Z0) (p_0 : Y2) (x_1 y_2 : Int) : Z0 :=
  L2 x_1 y_2 p_0 (0 : Int)
def vnb (N : Nat) (k : Z0) : Nat → Int → Int → Y2 → Int → Z0
  | 0, _, _, _, _ => none
  | m + 1, x1, y2, p3, z7 => vmw (vnb N k m) k x1 y2 p3 z7
def vakh (N : Nat) (x1 y2 : Int) (p3 : Y2) (z7 : Int) : Z0 := vnb N (vjf) N x1 y2 p3 z7
def zz58 (N : Nat) (p_0 : Y2) (x_1 y_2 : Int) : Z0 := varc (vakh N) p_0 x_1 y_2
def S_zz58 : Sig := { a := (.pair (.pair (.sl (.sl I)) .unit) (.pair I (.pair I .unit))), md := [0, 0, 0], mf := [], m := .unit, r := .bool, rf := .i, f := fun x => zz58 big x.1 x.2.1 x.2.2.1 }
def A_zz58 : Cfg := mkCfg tab [(84, S_zz55), (85, S_zz56)] [(4, [.drop, .as I .i, .as I .i, .as y1 (.o .i), .drop, .drop, .drop, .as I .i]), (13, [])]
noncomputable def vnr (N n : Nat) (K : Ex → St → Z0) (x1 y2 : Int) (p3 : Y2) (z7 : Int) : Z0 := iter ((A_zz58).shape 4) (run (A_zz58) N (codeAt Try.f67 [1, 0, 1, 0, 0])) n ([.u, .val I .i x1, .val I .i y2, .val y1 (.o .i) p3, .u, .u, .u, .val I .i z7] ++ List.replicate 33 .u) K
noncomputable abbrev varq : Ex → St → Z0 := finish (A_zz58) S_zz58 Try.f67.results.toList
noncomputable abbrev vuk (kX : St → Z0) : Z0 := kX ([] ++ List.replicate 41 .u)
noncomputable abbrev vyr (kX : St → Z0) (kO : Nat → St → Z0) : Ex → St → Z0 := exK varq 0 ((A_zz58).shape 13) kX kO
theorem vbcq (N m : Nat) (kX : St → Z0) (kO : Nat → St → Z0) (x1 y2 : Int) (p3 : Y2) (z7 : Int) : vnr N (m + 1) (vyr kX kO) x1 y2 p3 z7 = vmw (vnr N m (vyr kX kO)) (vuk kX) x1 y2 p3 z7 := by kernel_rfl
theorem vacf (N : Nat) (kX : St → Z0) (kO : Nat → St → Z0) : ∀ (n : Nat) (x1 y2 : Int) (p3 : Y2) (z7 : Int), vnr N n (vyr kX kO) x1 y2 p3 z7 = vnb N (vuk kX) n x1 y2 p3 z7
  | 0, _, _, _, _ => rfl
  | m + 1, x1, y2, p3, z7 => by
    have hrec : vnr N m (vyr kX kO) = (vnb N (vuk kX) m) := (funext fun x1 => (funext fun y2 => (funext fun p3 => (funext fun z7 => vacf N kX kO m x1 y2 p3 z7))))
    refine (vbcq N m kX kO x1 y2 p3 z7).trans ?_
    rw [hrec]
    rfl
noncomputable abbrev vaif (N : Nat) : Ex → St → Z0 := (blockK 0 (seqK ((A_zz58).shape 13) (gated ((A_zz58).shape 500006).isSome N (run (A_zz58) N (codeAt Try.f67 [1, 1]))) varq))
noncomputable abbrev vaiw (N : Nat) : St → Z0 := fun st' => run (A_zz58) N (codeAt Try.f67 [1, 1]) st' varq
theorem vaxz (N : Nat) : vuk (vaiw N) = vjf := by kernel_rfl
theorem vblq (N : Nat) (x1 y2 : Int) (p3 : Y2) (z7 : Int) : vnr N N (vaif N) x1 y2 p3 z7 = vakh N x1 y2 p3 z7 :=
  have h : vuk (vaiw N) = (vjf) := vaxz N
  ((vad (fun st => by kernel_rfl) (fun st => by kernel_rfl)).trans (vacf N (vaiw N) (fun j st => (vaif N) (.exit j) st) N x1 y2 p3 z7)).trans (congrArg (fun k => vnb N k N x1 y2 p3 z7) h)
theorem run0_zz58 (N : Nat) (x : (S_zz58).a.den) : runF (A_zz58) N Try.f67 S_zz58 x = (varc (vnr N N (vaif N)) x.1 x.2.1 x.2.2.1) := by kernel_rfl
theorem run_zz58 (N : Nat) (x : (S_zz58).a.den) : runF (A_zz58) N Try.f67 S_zz58 x = zz58 N x.1 x.2.1 x.2.2.1 := by
  refine (run0_zz58 N x).trans ?_
  rw [(funext fun x1 => (funext fun y2 => (funext fun p3 => (funext fun z7 => vblq N x1 y2 p3 z7))))]
  rfl
theorem fn_zz58 : FnOk Try.prog 67 := ⟨_, Try.func67, by kernel_rfl, by kernel_rfl⟩
theorem good_zz58 : Gx.Good Try.prog 67 S_zz58 := vaa Try.func67 (of_decide_eq_true (by kernel_rfl)) fun x r h => ⟨A_zz58, big, vac tabOk, vab (show SigsOk Try.prog [(84, S_zz55), (85, S_zz56)] from ⟨⟨fn_zz55, good_zz55⟩, ⟨fn_zz56, good_zz56⟩, trivial⟩), (run_zz58 big x).trans h⟩
def vlk (rec : Y2 → Y4 → Int → Y4 → Bool → Int → Z7) (k : Y2 → Y4 → Int → Bool → Z7) (p1 : Y2) (out4 : Y4) (x5 : Int) (own6 : Y4) (central7 : Bool) (i8 : Int) : Z7 :=
  cond (decide (i8 < (own6.length : Int)))
  (cond central7
  (rec p1 out4 x5 own6 true (IntKind.i64.wrap (i8 + (1 : Int))))
  ((atI own6 i8).bind fun _ =>
  (own6[i8.toNat]?).bind fun xq5 =>
  (zz58 big p1 x5 xq5).bind fun rq6 =>
  rec p1 out4 x5 own6 rq6.1 (IntKind.i64.wrap (i8 + (1 : Int)))))
  (k p1 out4 x5 central7)
def vgc (rec : Y2 → Y4 → Int → Z7) (p1 : Y2) (out4 : Y4) (x5 : Int) (central7 : Bool) : Z7 :=
  cond central7
  ((appI out4 [x5]).bind fun xq7 =>
  rec p1 xq7 (IntKind.i64.wrap (x5 + (1 : Int))))
  (rec p1 out4 (IntKind.i64.wrap (x5 + (1 : Int))))
def vol (L9 : Y2 → Y4 → Int → Y4 → Bool → Int → Z7) (k : Y4 → Z7) (p1 : Y2) (out4 : Y4) (x5 : Int) : Z7 :=
  cond (decide (x5 < (p1.1.length : Int)))
  ((zz53 p1).bind fun rq2 =>
  (zz54 p1).bind fun rq3 =>
  (zz57 big p1 rq2.1 x5 rq3.1).bind fun rq4 =>
  L9 p1 out4 x5 rq4.1 false (0 : Int))
  (k out4)
def vcu (out4 : Y4) : Z7 :=
  some ((out4, true, ()), (()))
def vapl (L5 : Y2 → Y4 → Int → Z7) (p_0 : Y2) : Z7 :=
  (zz52 big p_0).bind fun rq1 =>
  cond (!rq1.1)
  (some (([], false, ()), (())))
  (L5 p_0 [] (0 : Int))
def voy (N : Nat) (k : Y2 → Y4 → Int → Bool → Z7) : Nat → Y2 → Y4 → Int → Y4 → Bool → Int → Z7
  | 0, _, _, _, _, _, _ => none
  | m + 1, p1, out4, x5, own6, central7, i8 => vlk (voy N k m) k p1 out4 x5 own6 central7 i8
def vva (N : Nat) (rec : Y2 → Y4 → Int → Z7) (k : Y4 → Z7) (p1 : Y2) (out4 : Y4) (x5 : Int) (own6 : Y4) (central7 : Bool) (i8 : Int) : Z7 := voy N (vgc rec) N p1 out4 x5 own6 central7 i8
def vfl (N : Nat) (k : Y4 → Z7) : Nat → Y2 → Y4 → Int → Z7
  | 0, _, _, _ => none
  | m + 1, p1, out4, x5 => vol (vva N (vfl N k m) k) k p1 out4 x5
def vamg (N : Nat) (p1 : Y2) (out4 : Y4) (x5 : Int) : Z7 := vfl N (vcu) N p1 out4 x5
def zz59 (N : Nat) (p_0 : Y2) : Z7 := vapl (vamg N) p_0
def S_zz59 : Sig := { a := (.pair (.pair (.sl (.sl I)) .unit) .unit), md := [0], mf := [], m := .unit, r := (.tup (.pair (.sl I) (.pair .bool .unit))), rf := (.p (.o .i) .i), f := fun x => zz59 big x.1 }
def A_zz59 : Cfg := mkCfg tab [(55, S_zz52), (65, S_zz53), (66, S_zz54), (64, S_zz57), (67, S_zz58)] [(10, [.drop, .as y1 (.o .i), .drop, .drop, .as (.sl I) (.o .i), .as I .i]), (18, [.drop, .as y1 (.o .i), .drop, .drop, .as (.sl I) (.o .i), .as I .i, .as (.sl I) (.o .i), .as .bool .i, .as I .i]), (29, [.drop, .drop, .drop, .drop, .as (.sl I) (.o .i)]), (25, [.drop, .as y1 (.o .i), .drop, .drop, .as (.sl I) (.o .i), .as I .i, .drop, .as .bool .i])]
noncomputable def vkg (N n : Nat) (K : Ex → St → Z7) (p1 : Y2) (out4 : Y4) (x5 : Int) : Z7 := iter ((A_zz59).shape 10) (run (A_zz59) N (codeAt Try.f21 [1, 1, 1, 0, 1, 0, 0])) n ([.u, .val y1 (.o .i) p1, .u, .u, .val (.sl I) (.o .i) out4, .val I .i x5] ++ List.replicate 44 .u) K
noncomputable def vpo (N n : Nat) (K : Ex → St → Z7) (p1 : Y2) (out4 : Y4) (x5 : Int) (own6 : Y4) (central7 : Bool) (i8 : Int) : Z7 := iter ((A_zz59).shape 18) (run (A_zz59) N (codeAt Try.f21 [1, 1, 1, 0, 1, 0, 0, 1, 0, 0, 1, 0, 1, 0, 0])) n ([.u, .val y1 (.o .i) p1, .u, .u, .val (.sl I) (.o .i) out4, .val I .i x5, .val (.sl I) (.o .i) own6, .val .bool .i central7, .val I .i i8] ++ List.replicate 41 .u) K
noncomputable abbrev vafl : Ex → St → Z7 := finish (A_zz59) S_zz59 Try.f21.results.toList
noncomputable abbrev vim (kX : St → Z7) : Y4 → Z7 := fun (out4 : Y4) => kX ([.u, .u, .u, .u, .val (.sl I) (.o .i) out4] ++ List.replicate 45 .u)
noncomputable abbrev vkh (kX : St → Z7) (kO : Nat → St → Z7) : Ex → St → Z7 := exK vafl 0 ((A_zz59).shape 29) kX kO
noncomputable abbrev vte (kX : St → Z7) : Y2 → Y4 → Int → Bool → Z7 := fun (p1 : Y2) (out4 : Y4) (x5 : Int) (central7 : Bool) => kX ([.u, .val y1 (.o .i) p1, .u, .u, .val (.sl I) (.o .i) out4, .val I .i x5, .u, .val .bool .i central7] ++ List.replicate 42 .u)
noncomputable abbrev vzl (kX : St → Z7) (kO : Nat → St → Z7) : Ex → St → Z7 := exK vafl 2 ((A_zz59).shape 25) kX kO
theorem vbdh (N m : Nat) (kX : St → Z7) (kO : Nat → St → Z7) (p1 : Y2) (out4 : Y4) (x5 : Int) (own6 : Y4) (central7 : Bool) (i8 : Int) : vpo N (m + 1) (vzl kX kO) p1 out4 x5 own6 central7 i8 = vlk (vpo N m (vzl kX kO)) (vte kX) p1 out4 x5 own6 central7 i8 := by kernel_rfl
theorem vadc (N : Nat) (kX : St → Z7) (kO : Nat → St → Z7) : ∀ (n : Nat) (p1 : Y2) (out4 : Y4) (x5 : Int) (own6 : Y4) (central7 : Bool) (i8 : Int), vpo N n (vzl kX kO) p1 out4 x5 own6 central7 i8 = voy N (vte kX) n p1 out4 x5 own6 central7 i8
  | 0, _, _, _, _, _, _ => rfl
  | m + 1, p1, out4, x5, own6, central7, i8 => by
    have hrec : vpo N m (vzl kX kO) = (voy N (vte kX) m) := (funext fun p1 => (funext fun out4 => (funext fun x5 => (funext fun own6 => (funext fun central7 => (funext fun i8 => vadc N kX kO m p1 out4 x5 own6 central7 i8))))))
    refine (vbdh N m kX kO p1 out4 x5 own6 central7 i8).trans ?_
    rw [hrec]
    rfl
noncomputable abbrev vaie (N m : Nat) (kX : St → Z7) (kO : Nat → St → Z7) : Ex → St → Z7 := (blockK 2 (seqK ((A_zz59).shape 25) (gated ((A_zz59).shape 500012).isSome N (run (A_zz59) N (codeAt Try.f21 [1, 1, 1, 0, 1, 0, 0, 1, 0, 0, 1, 1]))) (blockK 1 (seqK ((A_zz59).shape 13) (gated ((A_zz59).shape 500006).isSome N (run (A_zz59) N (codeAt Try.f21 [1, 1, 1, 0, 1, 0, 0, 1, 1]))) (iterK ((A_zz59).shape 10) (run (A_zz59) N (codeAt Try.f21 [1, 1, 1, 0, 1, 0, 0])) m (vkh kX kO))))))
noncomputable abbrev vaky (N m : Nat) (kX : St → Z7) (kO : Nat → St → Z7) : St → Z7 := fun st' => run (A_zz59) N (codeAt Try.f21 [1, 1, 1, 0, 1, 0, 0, 1, 0, 0, 1, 1]) st' (blockK 1 (seqK ((A_zz59).shape 13) (gated ((A_zz59).shape 500006).isSome N (run (A_zz59) N (codeAt Try.f21 [1, 1, 1, 0, 1, 0, 0, 1, 1]))) (iterK ((A_zz59).shape 10) (run (A_zz59) N (codeAt Try.f21 [1, 1, 1, 0, 1, 0, 0])) m (vkh kX kO))))
theorem vavh (N m : Nat) (kX : St → Z7) (kO : Nat → St → Z7) (p1 : Y2) (out4 : Y4) (x5 : Int) (central7 : Bool) : vte (vaky N m kX kO) p1 out4 x5 central7 = vgc (vkg N m (vkh kX kO)) p1 out4 x5 central7 := by kernel_rfl
theorem vblg (N m : Nat) (kX : St → Z7) (kO : Nat → St → Z7) (recF : Y2 → Y4 → Int → Z7) (hrec : vkg N m (vkh kX kO) = recF) (p1 : Y2) (out4 : Y4) (x5 : Int) (own6 : Y4) (central7 : Bool) (i8 : Int) : vpo N N (vaie N m kX kO) p1 out4 x5 own6 central7 i8 = vva N recF (vim kX) p1 out4 x5 own6 central7 i8 :=
  have h : vte (vaky N m kX kO) = (vgc recF) := (funext fun p1 => (funext fun out4 => (funext fun x5 => (funext fun central7 => (vavh N m kX kO p1 out4 x5 central7).trans (by rw [hrec])))))
  ((vad (fun st => by kernel_rfl) (fun st => by kernel_rfl)).trans (vadc N (vaky N m kX kO) (fun j st => (vaie N m kX kO) (.exit j) st) N p1 out4 x5 own6 central7 i8)).trans (congrArg (fun k => voy N k N p1 out4 x5 own6 central7 i8) h)
theorem vbbr (N m : Nat) (kX : St → Z7) (kO : Nat → St → Z7) (p1 : Y2) (out4 : Y4) (x5 : Int) : vkg N (m + 1) (vkh kX kO) p1 out4 x5 = vol (vpo N N (vaie N m kX kO)) (vim kX) p1 out4 x5 := by kernel_rfl
theorem vafp (N : Nat) (kX : St → Z7) (kO : Nat → St → Z7) : ∀ (n : Nat) (p1 : Y2) (out4 : Y4) (x5 : Int), vkg N n (vkh kX kO) p1 out4 x5 = vfl N (vim kX) n p1 out4 x5
  | 0, _, _, _ => rfl
  | m + 1, p1, out4, x5 => by
    have hrec : vkg N m (vkh kX kO) = (vfl N (vim kX) m) := (funext fun p1 => (funext fun out4 => (funext fun x5 => vafp N kX kO m p1 out4 x5)))
    refine (vbbr N m kX kO p1 out4 x5).trans ?_
    rw [(funext fun p1 => (funext fun out4 => (funext fun x5 => (funext fun own6 => (funext fun central7 => (funext fun i8 => vblg N m kX kO (vfl N (vim kX) m) hrec p1 out4 x5 own6 central7 i8))))))]
    rfl
noncomputable abbrev vamn (N : Nat) : Ex → St → Z7 := (blockK 0 (seqK ((A_zz59).shape 29) (gated ((A_zz59).shape 500014).isSome N (run (A_zz59) N (codeAt Try.f21 [1, 1, 1, 1]))) vafl))
noncomputable abbrev vaix (N : Nat) : St → Z7 := fun st' => run (A_zz59) N (codeAt Try.f21 [1, 1, 1, 1]) st' vafl
theorem vavr (N : Nat) (out4 : Y4) : vim (vaix N) out4 = vcu out4 := by kernel_rfl
theorem vblr (N : Nat) (p1 : Y2) (out4 : Y4) (x5 : Int) : vkg N N (vamn N) p1 out4 x5 = vamg N p1 out4 x5 :=
  have h : vim (vaix N) = (vcu) := (funext fun out4 => vavr N out4)
  ((vad (fun st => by kernel_rfl) (fun st => by kernel_rfl)).trans (vafp N (vaix N) (fun j st => (vamn N) (.exit j) st) N p1 out4 x5)).trans (congrArg (fun k => vfl N k N p1 out4 x5) h)
theorem run0_zz59 (N : Nat) (x : (S_zz59).a.den) : runF (A_zz59) N Try.f21 S_zz59 x = (vapl (vkg N N (vamn N)) x.1) := by kernel_rfl
theorem run_zz59 (N : Nat) (x : (S_zz59).a.den) : runF (A_zz59) N Try.f21 S_zz59 x = zz59 N x.1 := by
  refine (run0_zz59 N x).trans ?_
  rw [(funext fun p1 => (funext fun out4 => (funext fun x5 => vblr N p1 out4 x5)))]
  rfl
theorem fn_zz59 : FnOk Try.prog 21 := ⟨_, Try.func21, by kernel_rfl, by kernel_rfl⟩
theorem good_zz59 : Gx.Good Try.prog 21 S_zz59 := vaa Try.func21 (of_decide_eq_true (by kernel_rfl)) fun x r h => ⟨A_zz59, big, vac tabOk, vab (show SigsOk Try.prog [(55, S_zz52), (65, S_zz53), (66, S_zz54), (64, S_zz57), (67, S_zz58)] from ⟨⟨fn_zz52, good_zz52⟩, ⟨fn_zz53, good_zz53⟩, ⟨fn_zz54, good_zz54⟩, ⟨fn_zz57, good_zz57⟩, ⟨fn_zz58, good_zz58⟩, trivial⟩), (run_zz59 big x).trans h⟩
def vlp (rec : Y4 → Y4 → Int → Z0) (k : Z0) (a0 b1 : Y4) (i5 : Int) : Z0 :=
  cond (decide (i5 < (a0.length : Int)))
  ((atI a0 i5).bind fun xq1 =>
  (atI b1 i5).bind fun xq2 =>
  cond (decide (xq1 ≠ xq2))
  (some (false, (())))
  (rec a0 b1 (IntKind.i64.wrap (i5 + (1 : Int)))))
  (k)
def vfd : Z0 :=
  some (true, (()))
def vara (L4 : Y4 → Y4 → Int → Z0) (a_0 b_1 : Y4) : Z0 :=
  cond (decide ((a_0.length : Int) ≠ (b_1.length : Int)))
  (some (false, (())))
  (L4 a_0 b_1 (0 : Int))
def vmb (N : Nat) (k : Z0) : Nat → Y4 → Y4 → Int → Z0
  | 0, _, _, _ => none
  | m + 1, a0, b1, i5 => vlp (vmb N k m) k a0 b1 i5
def vamh (N : Nat) (a0 b1 : Y4) (i5 : Int) : Z0 := vmb N (vfd) N a0 b1 i5
def zz60 (N : Nat) (a_0 b_1 : Y4) : Z0 := vara (vamh N) a_0 b_1
def S_zz60 : Sig := { a := (.pair (.sl I) (.pair (.sl I) .unit)), md := [0, 0], mf := [], m := .unit, r := .bool, rf := .i, f := fun x => zz60 big x.1 x.2.1 }
def A_zz60 : Cfg := mkCfg tab [] [(8, [.as (.sl I) .i, .as (.sl I) .i, .drop, .drop, .drop, .as I .i]), (17, [])]
noncomputable def vmp (N n : Nat) (K : Ex → St → Z0) (a0 b1 : Y4) (i5 : Int) : Z0 := iter ((A_zz60).shape 8) (run (A_zz60) N (codeAt Try.f22 [1, 1, 0, 1, 0, 0])) n ([.val (.sl I) .i a0, .val (.sl I) .i b1, .u, .u, .u, .val I .i i5] ++ List.replicate 20 .u) K
noncomputable abbrev vapu : Ex → St → Z0 := finish (A_zz60) S_zz60 Try.f22.results.toList
noncomputable abbrev vub (kX : St → Z0) : Z0 := kX ([] ++ List.replicate 26 .u)
noncomputable abbrev vyp (kX : St → Z0) (kO : Nat → St → Z0) : Ex → St → Z0 := exK vapu 0 ((A_zz60).shape 17) kX kO
theorem vbbj (N m : Nat) (kX : St → Z0) (kO : Nat → St → Z0) (a0 b1 : Y4) (i5 : Int) : vmp N (m + 1) (vyp kX kO) a0 b1 i5 = vlp (vmp N m (vyp kX kO)) (vub kX) a0 b1 i5 := by kernel_rfl
theorem vaey (N : Nat) (kX : St → Z0) (kO : Nat → St → Z0) : ∀ (n : Nat) (a0 b1 : Y4) (i5 : Int), vmp N n (vyp kX kO) a0 b1 i5 = vmb N (vub kX) n a0 b1 i5
  | 0, _, _, _ => rfl
  | m + 1, a0, b1, i5 => by
    have hrec : vmp N m (vyp kX kO) = (vmb N (vub kX) m) := (funext fun a0 => (funext fun b1 => (funext fun i5 => vaey N kX kO m a0 b1 i5)))
    refine (vbbj N m kX kO a0 b1 i5).trans ?_
    rw [hrec]
    rfl
noncomputable abbrev vakm (N : Nat) : Ex → St → Z0 := (blockK 0 (seqK ((A_zz60).shape 17) (gated ((A_zz60).shape 500008).isSome N (run (A_zz60) N (codeAt Try.f22 [1, 1, 1]))) vapu))
noncomputable abbrev valp (N : Nat) : St → Z0 := fun st' => run (A_zz60) N (codeAt Try.f22 [1, 1, 1]) st' vapu
theorem vaxe (N : Nat) : vub (valp N) = vfd := by kernel_rfl
theorem vbkt (N : Nat) (a0 b1 : Y4) (i5 : Int) : vmp N N (vakm N) a0 b1 i5 = vamh N a0 b1 i5 :=
  have h : vub (valp N) = (vfd) := vaxe N
  ((vad (fun st => by kernel_rfl) (fun st => by kernel_rfl)).trans (vaey N (valp N) (fun j st => (vakm N) (.exit j) st) N a0 b1 i5)).trans (congrArg (fun k => vmb N k N a0 b1 i5) h)
theorem run0_zz60 (N : Nat) (x : (S_zz60).a.den) : runF (A_zz60) N Try.f22 S_zz60 x = (vara (vmp N N (vakm N)) x.1 x.2.1) := by kernel_rfl
theorem run_zz60 (N : Nat) (x : (S_zz60).a.den) : runF (A_zz60) N Try.f22 S_zz60 x = zz60 N x.1 x.2.1 := by
  refine (run0_zz60 N x).trans ?_
  rw [(funext fun a0 => (funext fun b1 => (funext fun i5 => vbkt N a0 b1 i5)))]
  rfl
theorem fn_zz60 : FnOk Try.prog 22 := ⟨_, Try.func22, by kernel_rfl, by kernel_rfl⟩
theorem good_zz60 : Gx.Good Try.prog 22 S_zz60 := vaa Try.func22 (of_decide_eq_true (by kernel_rfl)) fun x r h => ⟨A_zz60, big, vac tabOk, vab (show SigsOk Try.prog [] from trivial), (run_zz60 big x).trans h⟩
def vbfx (x_0 : Int) (p_1 : Y1) : Z0 :=
  (zz38 p_1 x_0).bind fun rq1 =>
  some (decide ((rq1.1.length : Int) = (0 : Int)), (()))
def zz61 (x_0 : Int) (p_1 : Y1) : Z0 := vbfx x_0 p_1
def S_zz61 : Sig := { a := (.pair I (.pair (.ptr (.opt (.pair (.sl (.sl .bool)) (.pair (.sl (.sl I)) (.pair (.sl (.sl I)) .unit))))) .unit)), md := [0, 0], mf := [], m := .unit, r := .bool, rf := .i, f := fun x => zz61 x.1 x.2.1 }
def A_zz61 : Cfg := mkCfg tab [(73, S_zz38)] []
theorem run_zz61 (N : Nat) (x : (S_zz61).a.den) : runF (A_zz61) N Try.f113 S_zz61 x = zz61 x.1 x.2.1 := by kernel_rfl
theorem fn_zz61 : FnOk Try.prog 113 := ⟨_, Try.func113, by kernel_rfl, by kernel_rfl⟩
theorem good_zz61 : Gx.Good Try.prog 113 S_zz61 := vaa Try.func113 (of_decide_eq_true (by kernel_rfl)) fun x r h => ⟨A_zz61, big, vac tabOk, vab (show SigsOk Try.prog [(73, S_zz38)] from ⟨⟨fn_zz38, good_zz38⟩, trivial⟩), (run_zz61 big x).trans h⟩
def vph (rec : Z16 → Y4 → Int → Int → Z5) (k : Y4 → Z5) (so1 : Z16) (list5 : Y4) (t9 t10 : Int) : Z5 :=
  cond (decide (t10 < t9))
  ((zz61 t10 so1.1).bind fun rq1 =>
  cond rq1.1
  ((appI list5 [t10]).bind fun xq2 =>
  rec so1 xq2 t9 (IntKind.i64.wrap (t10 + (1 : Int))))
  (rec so1 list5 t9 (IntKind.i64.wrap (t10 + (1 : Int)))))
  (k list5)
def vjv (list5 : Y4) : Z5 :=
  some (list5, (()))
def varl (L3 : Z16 → Y4 → Int → Int → Z5) (o_0 : Y5) (so_1 : Z16) : Z5 :=
  L3 so_1 [] (o_0.length : Int) (0 : Int)
def vow (N : Nat) (k : Y4 → Z5) : Nat → Z16 → Y4 → Int → Int → Z5
  | 0, _, _, _, _ => none
  | m + 1, so1, list5, t9, t10 => vph (vow N k m) k so1 list5 t9 t10
def vajw (N : Nat) (so1 : Z16) (list5 : Y4) (t9 t10 : Int) : Z5 := vow N (vjv) N so1 list5 t9 t10
def zz62 (N : Nat) (o_0 : Y5) (so_1 : Z16) : Z5 := varl (vajw N) o_0 so_1
def S_zz62 : Sig := { a := (.pair (.sl (.sl .bool)) (.pair (.clo 113 0 (.pair (.ptr (.opt (.pair (.sl (.sl .bool)) (.pair (.sl (.sl I)) (.pair (.sl (.sl I)) .unit))))) .unit)) .unit)), md := [0, 0], mf := [], m := .unit, r := (.sl I), rf := (.o .i), f := fun x => zz62 big x.1 x.2.1 }
def A_zz62 : Cfg := mkCfg tab [(113, S_zz61)] [(6, [.drop, .as (.clo 113 0 (.pair (.ptr (.opt (.pair (.sl (.sl .bool)) (.pair (.sl (.sl I)) (.pair (.sl (.sl I)) .unit))))) .unit)) .i, .drop, .drop, .drop, .as (.sl I) (.o .i), .drop, .drop, .drop, .as I .i, .as I .i]), (17, [.drop, .drop, .drop, .drop, .drop, .as (.sl I) (.o .i)])]
noncomputable def vmy (N n : Nat) (K : Ex → St → Z5) (so1 : Z16) (list5 : Y4) (t9 t10 : Int) : Z5 := iter ((A_zz62).shape 6) (run (A_zz62) N (codeAt Try.f62 [1, 1, 0, 1, 0, 0])) n ([.u, .val (.clo 113 0 (.pair (.ptr (.opt (.pair (.sl (.sl .bool)) (.pair (.sl (.sl I)) (.pair (.sl (.sl I)) .unit))))) .unit)) .i so1, .u, .u, .u, .val (.sl I) (.o .i) list5, .u, .u, .u, .val I .i t9, .val I .i t10] ++ List.replicate 11 .u) K
noncomputable abbrev vasz : Ex → St → Z5 := finish (A_zz62) S_zz62 Try.f62.results.toList
noncomputable abbrev vso (kX : St → Z5) : Y4 → Z5 := fun (list5 : Y4) => kX ([.u, .u, .u, .u, .u, .val (.sl I) (.o .i) list5] ++ List.replicate 16 .u)
noncomputable abbrev vyz (kX : St → Z5) (kO : Nat → St → Z5) : Ex → St → Z5 := exK vasz 0 ((A_zz62).shape 17) kX kO
theorem vbba (N m : Nat) (kX : St → Z5) (kO : Nat → St → Z5) (so1 : Z16) (list5 : Y4) (t9 t10 : Int) : vmy N (m + 1) (vyz kX kO) so1 list5 t9 t10 = vph (vmy N m (vyz kX kO)) (vso kX) so1 list5 t9 t10 := by kernel_rfl
theorem vafq (N : Nat) (kX : St → Z5) (kO : Nat → St → Z5) : ∀ (n : Nat) (so1 : Z16) (list5 : Y4) (t9 t10 : Int), vmy N n (vyz kX kO) so1 list5 t9 t10 = vow N (vso kX) n so1 list5 t9 t10
  | 0, _, _, _, _ => rfl
  | m + 1, so1, list5, t9, t10 => by
    have hrec : vmy N m (vyz kX kO) = (vow N (vso kX) m) := (funext fun so1 => (funext fun list5 => (funext fun t9 => (funext fun t10 => vafq N kX kO m so1 list5 t9 t10))))
    refine (vbba N m kX kO so1 list5 t9 t10).trans ?_
    rw [hrec]
    rfl
noncomputable abbrev vakz (N : Nat) : Ex → St → Z5 := (blockK 0 (seqK ((A_zz62).shape 17) (gated ((A_zz62).shape 500008).isSome N (run (A_zz62) N (codeAt Try.f62 [1, 1, 1]))) vasz))
noncomputable abbrev vaki (N : Nat) : St → Z5 := fun st' => run (A_zz62) N (codeAt Try.f62 [1, 1, 1]) st' vasz
theorem vave (N : Nat) (list5 : Y4) : vso (vaki N) list5 = vjv list5 := by kernel_rfl
theorem vbjv (N : Nat) (so1 : Z16) (list5 : Y4) (t9 t10 : Int) : vmy N N (vakz N) so1 list5 t9 t10 = vajw N so1 list5 t9 t10 :=
  have h : vso (vaki N) = (vjv) := (funext fun list5 => vave N list5)
  ((vad (fun st => by kernel_rfl) (fun st => by kernel_rfl)).trans (vafq N (vaki N) (fun j st => (vakz N) (.exit j) st) N so1 list5 t9 t10)).trans (congrArg (fun k => vow N k N so1 list5 t9 t10) h)
theorem run0_zz62 (N : Nat) (x : (S_zz62).a.den) : runF (A_zz62) N Try.f62 S_zz62 x = (varl (vmy N N (vakz N)) x.1 x.2.1) := by kernel_rfl
theorem run_zz62 (N : Nat) (x : (S_zz62).a.den) : runF (A_zz62) N Try.f62 S_zz62 x = zz62 N x.1 x.2.1 := by
  refine (run0_zz62 N x).trans ?_
  rw [(funext fun so1 => (funext fun list5 => (funext fun t9 => (funext fun t10 => vbjv N so1 list5 t9 t10))))]
  rfl
theorem fn_zz62 : FnOk Try.prog 62 := ⟨_, Try.func62, by kernel_rfl, by kernel_rfl⟩
theorem good_zz62 : Gx.Good Try.prog 62 S_zz62 := vaa Try.func62 (of_decide_eq_true (by kernel_rfl)) fun x r h => ⟨A_zz62, big, vac tabOk, vab (show SigsOk Try.prog [(113, S_zz61)] from ⟨⟨fn_zz61, good_zz61⟩, trivial⟩), (run_zz62 big x).trans h⟩
def vbhs (o_0 : Y5) (so_1 : Z16) : Z0 :=
  (zz62 big o_0 so_1).bind fun rq1 =>
  some (decide ((rq1.1.length : Int) = (0 : Int)), (()))
def zz63 (o_0 : Y5) (so_1 : Z16) : Z0 := vbhs o_0 so_1
def S_zz63 : Sig := { a := (.pair (.sl (.sl .bool)) (.pair (.clo 113 0 (.pair (.ptr (.opt (.pair (.sl (.sl .bool)) (.pair (.sl (.sl I)) (.pair (.sl (.sl I)) .unit))))) .unit)) .unit)), md := [0, 0], mf := [], m := .unit, r := .bool, rf := .i, f := fun x => zz63 x.1 x.2.1 }
def A_zz63 : Cfg := mkCfg tab [(62, S_zz62)] []
theorem run_zz63 (N : Nat) (x : (S_zz63).a.den) : runF (A_zz63) N Try.f71 S_zz63 x = zz63 x.1 x.2.1 := by kernel_rfl
theorem fn_zz63 : FnOk Try.prog 71 := ⟨_, Try.func71, by kernel_rfl, by kernel_rfl⟩
theorem good_zz63 : Gx.Good Try.prog 71 S_zz63 := vaa Try.func71 (of_decide_eq_true (by kernel_rfl)) fun x r h => ⟨A_zz63, big, vac tabOk, vab (show SigsOk Try.prog [(62, S_zz62)] from ⟨⟨fn_zz62, good_zz62⟩, trivial⟩), (run_zz63 big x).trans h⟩
def vbeq (l_0 : Y1) : Z0 :=
  (l_0).bind fun xq1 =>
  (zz63 xq1.1 (l_0, ())).bind fun rq2 =>
  some (rq2.1, (()))
def zz64 (l_0 : Y1) : Z0 := vbeq l_0
def S_zz64 : Sig := { a := (.pair (.opt (.pair (.sl (.sl .bool)) (.pair (.sl (.sl I)) (.pair (.sl (.sl I)) .unit)))) .unit), md := [0], mf := [], m := .unit, r := .bool, rf := .i, f := fun x => zz64 x.1 }
def A_zz64 : Cfg := mkCfg tab [(71, S_zz63)] [(3, [.drop, .as (.ptr (.opt (.pair (.sl (.sl .bool)) (.pair (.sl (.sl I)) (.pair (.sl (.sl I)) .unit))))) .i])]
theorem run_zz64 (N : Nat) (x : (S_zz64).a.den) : runF (A_zz64) N Try.f68 S_zz64 x = zz64 x.1 := by kernel_rfl
theorem fn_zz64 : FnOk Try.prog 68 := ⟨_, Try.func68, by kernel_rfl, by kernel_rfl⟩
theorem good_zz64 : Gx.Good Try.prog 68 S_zz64 := vaa Try.func68 (of_decide_eq_true (by kernel_rfl)) fun x r h => ⟨A_zz64, big, vac tabOk, vab (show SigsOk Try.prog [(71, S_zz63)] from ⟨⟨fn_zz63, good_zz63⟩, trivial⟩), (run_zz64 big x).trans h⟩
def vatj (p_0 : Y2) : Z2 :=
  (zz32 p_0).bind fun rq1 =>
  cond rq1.1.2.1
  ((zz64 rq1.1.1).bind fun rq2 =>
  some ((rq2.1, rq1.1.2.1, ()), (())))
  (some ((false, rq1.1.2.1, ()), (())))
def zz65 (p_0 : Y2) : Z2 := vatj p_0
def S_zz65 : Sig := { a := (.pair (.pair (.sl (.sl I)) .unit) .unit), md := [0], mf := [], m := .unit, r := (.tup (.pair .bool (.pair .bool .unit))), rf := .i, f := fun x => zz65 x.1 }
def A_zz65 : Cfg := mkCfg tab [(51, S_zz32), (68, S_zz64)] []
theorem run_zz65 (N : Nat) (x : (S_zz65).a.den) : runF (A_zz65) N Try.f23 S_zz65 x = zz65 x.1 := by kernel_rfl
theorem fn_zz65 : FnOk Try.prog 23 := ⟨_, Try.func23, by kernel_rfl, by kernel_rfl⟩
theorem good_zz65 : Gx.Good Try.prog 23 S_zz65 := vaa Try.func23 (of_decide_eq_true (by kernel_rfl)) fun x r h => ⟨A_zz65, big, vac tabOk, vab (show SigsOk Try.prog [(51, S_zz32), (68, S_zz64)] from ⟨⟨fn_zz32, good_zz32⟩, ⟨fn_zz64, good_zz64⟩, trivial⟩), (run_zz65 big x).trans h⟩
def vpw (rec : Y2 → Y4 → Int → Z5) (k : Y4 → Z5) (p1 : Y2) (out3 : Y4) (x4 : Int) : Z5 :=
  cond (decide (x4 < (p1.1.length : Int)))
  ((zz53 p1).bind fun rq1 =>
  (zz54 p1).bind fun rq2 =>
  (zz57 big p1 rq1.1 x4 rq2.1).bind fun rq3 =>
  (appI out3 [(rq3.1.length : Int)]).bind fun xq4 =>
  rec p1 xq4 (IntKind.i64.wrap (x4 + (1 : Int))))
  (k out3)
def vke (out3 : Y4) : Z5 :=
  some (out3, (()))
def vauw (L3 : Y2 → Y4 → Int → Z5) (p_0 : Y2) : Z5 :=
  L3 p_0 [] (0 : Int)
def vnk (N : Nat) (k : Y4 → Z5) : Nat → Y2 → Y4 → Int → Z5
  | 0, _, _, _ => none
  | m + 1, p1, out3, x4 => vpw (vnk N k m) k p1 out3 x4
def vajn (N : Nat) (p1 : Y2) (out3 : Y4) (x4 : Int) : Z5 := vnk N (vke) N p1 out3 x4
def zz66 (N : Nat) (p_0 : Y2) : Z5 := vauw (vajn N) p_0
def S_zz66 : Sig := { a := (.pair (.pair (.sl (.sl I)) .unit) .unit), md := [0], mf := [], m := .unit, r := (.sl I), rf := (.o .i), f := fun x => zz66 big x.1 }
def A_zz66 : Cfg := mkCfg tab [(65, S_zz53), (66, S_zz54), (64, S_zz57)] [(6, [.drop, .as y1 (.o .i), .drop, .as (.sl I) (.o .i), .as I .i]), (13, [.drop, .drop, .drop, .as (.sl I) (.o .i)])]
noncomputable def vop (N n : Nat) (K : Ex → St → Z5) (p1 : Y2) (out3 : Y4) (x4 : Int) : Z5 := iter ((A_zz66).shape 6) (run (A_zz66) N (codeAt Try.f70 [1, 1, 0, 1, 0, 0])) n ([.u, .val y1 (.o .i) p1, .u, .val (.sl I) (.o .i) out3, .val I .i x4] ++ List.replicate 20 .u) K
noncomputable abbrev vasd : Ex → St → Z5 := finish (A_zz66) S_zz66 Try.f70.results.toList
noncomputable abbrev vtw (kX : St → Z5) : Y4 → Z5 := fun (out3 : Y4) => kX ([.u, .u, .u, .val (.sl I) (.o .i) out3] ++ List.replicate 21 .u)
noncomputable abbrev vzq (kX : St → Z5) (kO : Nat → St → Z5) : Ex → St → Z5 := exK vasd 0 ((A_zz66).shape 13) kX kO
theorem vbdj (N m : Nat) (kX : St → Z5) (kO : Nat → St → Z5) (p1 : Y2) (out3 : Y4) (x4 : Int) : vop N (m + 1) (vzq kX kO) p1 out3 x4 = vpw (vop N m (vzq kX kO)) (vtw kX) p1 out3 x4 := by kernel_rfl
theorem vaeh (N : Nat) (kX : St → Z5) (kO : Nat → St → Z5) : ∀ (n : Nat) (p1 : Y2) (out3 : Y4) (x4 : Int), vop N n (vzq kX kO) p1 out3 x4 = vnk N (vtw kX) n p1 out3 x4
  | 0, _, _, _ => rfl
  | m + 1, p1, out3, x4 => by
    have hrec : vop N m (vzq kX kO) = (vnk N (vtw kX) m) := (funext fun p1 => (funext fun out3 => (funext fun x4 => vaeh N kX kO m p1 out3 x4)))
    refine (vbdj N m kX kO p1 out3 x4).trans ?_
    rw [hrec]
    rfl
noncomputable abbrev vahs (N : Nat) : Ex → St → Z5 := (blockK 0 (seqK ((A_zz66).shape 13) (gated ((A_zz66).shape 500006).isSome N (run (A_zz66) N (codeAt Try.f70 [1, 1, 1]))) vasd))
noncomputable abbrev vako (N : Nat) : St → Z5 := fun st' => run (A_zz66) N (codeAt Try.f70 [1, 1, 1]) st' vasd
theorem vavg (N : Nat) (out3 : Y4) : vtw (vako N) out3 = vke out3 := by kernel_rfl
theorem vbiw (N : Nat) (p1 : Y2) (out3 : Y4) (x4 : Int) : vop N N (vahs N) p1 out3 x4 = vajn N p1 out3 x4 :=
  have h : vtw (vako N) = (vke) := (funext fun out3 => vavg N out3)
  ((vad (fun st => by kernel_rfl) (fun st => by kernel_rfl)).trans (vaeh N (vako N) (fun j st => (vahs N) (.exit j) st) N p1 out3 x4)).trans (congrArg (fun k => vnk N k N p1 out3 x4) h)
theorem run0_zz66 (N : Nat) (x : (S_zz66).a.den) : runF (A_zz66) N Try.f70 S_zz66 x = (vauw (vop N N (vahs N)) x.1) := by kernel_rfl
theorem run_zz66 (N : Nat) (x : (S_zz66).a.den) : runF (A_zz66) N Try.f70 S_zz66 x = zz66 N x.1 := by
  refine (run0_zz66 N x).trans ?_
  rw [(funext fun p1 => (funext fun out3 => (funext fun x4 => vbiw N p1 out3 x4)))]
  rfl
theorem fn_zz66 : FnOk Try.prog 70 := ⟨_, Try.func70, by kernel_rfl, by kernel_rfl⟩
theorem good_zz66 : Gx.Good Try.prog 70 S_zz66 := vaa Try.func70 (of_decide_eq_true (by kernel_rfl)) fun x r h => ⟨A_zz66, big, vac tabOk, vab (show SigsOk Try.prog [(65, S_zz53), (66, S_zz54), (64, S_zz57)] from ⟨⟨fn_zz53, good_zz53⟩, ⟨fn_zz54, good_zz54⟩, ⟨fn_zz57, good_zz57⟩, trivial⟩), (run_zz66 big x).trans h⟩
def varv (p_0 : Y2) : Z2 :=
  (zz52 big p_0).bind fun rq1 =>
  cond (!rq1.1)
  (some ((false, false, ()), (())))
  ((zz66 big p_0).bind fun rq2 =>
  (zz14 big rq2.1 (0 : Int)).bind fun rq3 =>
  some ((!rq3.1, true, ()), (())))
def zz67 (p_0 : Y2) : Z2 := varv p_0
def S_zz67 : Sig := { a := (.pair (.pair (.sl (.sl I)) .unit) .unit), md := [0], mf := [], m := .unit, r := (.tup (.pair .bool (.pair .bool .unit))), rf := .i, f := fun x => zz67 x.1 }
def A_zz67 : Cfg := mkCfg tab [(55, S_zz52), (70, S_zz66), (69, S_zz14)] []
theorem run_zz67 (N : Nat) (x : (S_zz67).a.den) : runF (A_zz67) N Try.f24 S_zz67 x = zz67 x.1 := by kernel_rfl
theorem fn_zz67 : FnOk Try.prog 24 := ⟨_, Try.func24, by kernel_rfl, by kernel_rfl⟩
theorem good_zz67 : Gx.Good Try.prog 24 S_zz67 := vaa Try.func24 (of_decide_eq_true (by kernel_rfl)) fun x r h => ⟨A_zz67, big, vac tabOk, vab (show SigsOk Try.prog [(55, S_zz52), (70, S_zz66), (69, S_zz14)] from ⟨⟨fn_zz52, good_zz52⟩, ⟨fn_zz66, good_zz66⟩, ⟨fn_zz14, good_zz14⟩, trivial⟩), (run_zz67 big x).trans h⟩
def vbgi (x_0 : Int) (p_1 : Y1) : Z0 :=
  (zz38 p_1 x_0).bind fun rq1 =>
  some (decide ((rq1.1.length : Int) ≠ (1 : Int)), (()))
def zz68 (x_0 : Int) (p_1 : Y1) : Z0 := vbgi x_0 p_1
def S_zz68 : Sig := { a := (.pair I (.pair (.ptr (.opt (.pair (.sl (.sl .bool)) (.pair (.sl (.sl I)) (.pair (.sl (.sl I)) .unit))))) .unit)), md := [0, 0], mf := [], m := .unit, r := .bool, rf := .i, f := fun x => zz68 x.1 x.2.1 }
def A_zz68 : Cfg := mkCfg tab [(73, S_zz38)] []
theorem run_zz68 (N : Nat) (x : (S_zz68).a.den) : runF (A_zz68) N Try.f72 S_zz68 x = zz68 x.1 x.2.1 := by kernel_rfl
theorem fn_zz68 : FnOk Try.prog 72 := ⟨_, Try.func72, by kernel_rfl, by kernel_rfl⟩
theorem good_zz68 : Gx.Good Try.prog 72 S_zz68 := vaa Try.func72 (of_decide_eq_true (by kernel_rfl)) fun x r h => ⟨A_zz68, big, vac tabOk, vab (show SigsOk Try.prog [(73, S_zz38)] from ⟨⟨fn_zz38, good_zz38⟩, trivial⟩), (run_zz68 big x).trans h⟩
def vof (rec : Z16 → Y4 → Int → Int → Z5) (k : Y4 → Z5) (so1 : Z16) (list5 : Y4) (t9 t10 : Int) : Z5 :=
  cond (decide (t10 < t9))
  ((zz68 t10 so1.1).bind fun rq1 =>
  cond rq1.1
  ((appI list5 [t10]).bind fun xq2 =>
  rec so1 xq2 t9 (IntKind.i64.wrap (t10 + (1 : Int))))
  (rec so1 list5 t9 (IntKind.i64.wrap (t10 + (1 : Int)))))
  (k list5)
def vgd (list5 : Y4) : Z5 :=
  some (list5, (()))
def vaqc (L3 : Z16 → Y4 → Int → Int → Z5) (o_0 : Y5) (so_1 : Z16) : Z5 :=
  L3 so_1 [] (o_0.length : Int) (0 : Int)
def vlw (N : Nat) (k : Y4 → Z5) : Nat → Z16 → Y4 → Int → Int → Z5
  | 0, _, _, _, _ => none
  | m + 1, so1, list5, t9, t10 => vof (vlw N k m) k so1 list5 t9 t10
def vajf (N : Nat) (so1 : Z16) (list5 : Y4) (t9 t10 : Int) : Z5 := vlw N (vgd) N so1 list5 t9 t10
def zz69 (N : Nat) (o_0 : Y5) (so_1 : Z16) : Z5 := vaqc (vajf N) o_0 so_1
def S_zz69 : Sig := { a := (.pair (.sl (.sl .bool)) (.pair (.clo 72 0 (.pair (.ptr (.opt (.pair (.sl (.sl .bool)) (.pair (.sl (.sl I)) (.pair (.sl (.sl I)) .unit))))) .unit)) .unit)), md := [0, 0], mf := [], m := .unit, r := (.sl I), rf := (.o .i), f := fun x => zz69 big x.1 x.2.1 }
def A_zz69 : Cfg := mkCfg tab [(72, S_zz68)] [(6, [.drop, .as (.clo 72 0 (.pair (.ptr (.opt (.pair (.sl (.sl .bool)) (.pair (.sl (.sl I)) (.pair (.sl (.sl I)) .unit))))) .unit)) .i, .drop, .drop, .drop, .as (.sl I) (.o .i), .drop, .drop, .drop, .as I .i, .as I .i]), (17, [.drop, .drop, .drop, .drop, .drop, .as (.sl I) (.o .i)])]
noncomputable def voi (N n : Nat) (K : Ex → St → Z5) (so1 : Z16) (list5 : Y4) (t9 t10 : Int) : Z5 := iter ((A_zz69).shape 6) (run (A_zz69) N (codeAt Try.f62 [1, 1, 0, 1, 0, 0])) n ([.u, .val (.clo 72 0 (.pair (.ptr (.opt (.pair (.sl (.sl .bool)) (.pair (.sl (.sl I)) (.pair (.sl (.sl I)) .unit))))) .unit)) .i so1, .u, .u, .u, .val (.sl I) (.o .i) list5, .u, .u, .u, .val I .i t9, .val I .i t10] ++ List.replicate 11 .u) K
noncomputable abbrev vauu : Ex → St → Z5 := finish (A_zz69) S_zz69 Try.f62.results.toList
noncomputable abbrev vtq (kX : St → Z5) : Y4 → Z5 := fun (list5 : Y4) => kX ([.u, .u, .u, .u, .u, .val (.sl I) (.o .i) list5] ++ List.replicate 16 .u)
noncomputable abbrev vyx (kX : St → Z5) (kO : Nat → St → Z5) : Ex → St → Z5 := exK vauu 0 ((A_zz69).shape 17) kX kO
theorem vbbo (N m : Nat) (kX : St → Z5) (kO : Nat → St → Z5) (so1 : Z16) (list5 : Y4) (t9 t10 : Int) : voi N (m + 1) (vyx kX kO) so1 list5 t9 t10 = vof (voi N m (vyx kX kO)) (vtq kX) so1 list5 t9 t10 := by kernel_rfl
theorem vaej (N : Nat) (kX : St → Z5) (kO : Nat → St → Z5) : ∀ (n : Nat) (so1 : Z16) (list5 : Y4) (t9 t10 : Int), voi N n (vyx kX kO) so1 list5 t9 t10 = vlw N (vtq kX) n so1 list5 t9 t10
  | 0, _, _, _, _ => rfl
  | m + 1, so1, list5, t9, t10 => by
    have hrec : voi N m (vyx kX kO) = (vlw N (vtq kX) m) := (funext fun so1 => (funext fun list5 => (funext fun t9 => (funext fun t10 => vaej N kX kO m so1 list5 t9 t10))))
    refine (vbbo N m kX kO so1 list5 t9 t10).trans ?_
    rw [hrec]
    rfl
noncomputable abbrev vala (N : Nat) : Ex → St → Z5 := (blockK 0 (seqK ((A_zz69).shape 17) (gated ((A_zz69).shape 500008).isSome N (run (A_zz69) N (codeAt Try.f62 [1, 1, 1]))) vauu))
noncomputable abbrev vajv (N : Nat) : St → Z5 := fun st' => run (A_zz69) N (codeAt Try.f62 [1, 1, 1]) st' vauu
theorem vavo (N : Nat) (list5 : Y4) : vtq (vajv N) list5 = vgd list5 := by kernel_rfl
theorem vbly (N : Nat) (so1 : Z16) (list5 : Y4) (t9 t10 : Int) : voi N N (vala N) so1 list5 t9 t10 = vajf N so1 list5 t9 t10 :=
  have h : vtq (vajv N) = (vgd) := (funext fun list5 => vavo N list5)
  ((vad (fun st => by kernel_rfl) (fun st => by kernel_rfl)).trans (vaej N (vajv N) (fun j st => (vala N) (.exit j) st) N so1 list5 t9 t10)).trans (congrArg (fun k => vlw N k N so1 list5 t9 t10) h)
theorem run0_zz69 (N : Nat) (x : (S_zz69).a.den) : runF (A_zz69) N Try.f62 S_zz69 x = (vaqc (voi N N (vala N)) x.1 x.2.1) := by kernel_rfl
theorem run_zz69 (N : Nat) (x : (S_zz69).a.den) : runF (A_zz69) N Try.f62 S_zz69 x = zz69 N x.1 x.2.1 := by
  refine (run0_zz69 N x).trans ?_
  rw [(funext fun so1 => (funext fun list5 => (funext fun t9 => (funext fun t10 => vbly N so1 list5 t9 t10))))]
  rfl
theorem fn_zz69 : FnOk Try.prog 62 := ⟨_, Try.func62, by kernel_rfl, by kernel_rfl⟩
theorem good_zz69 : Gx.Good Try.prog 62 S_zz69 := vaa Try.func62 (of_decide_eq_true (by kernel_rfl)) fun x r h => ⟨A_zz69, big, vac tabOk, vab (show SigsOk Try.prog [(72, S_zz68)] from ⟨⟨fn_zz68, good_zz68⟩, trivial⟩), (run_zz69 big x).trans h⟩
def vbeg (o_0 : Y5) (so_1 : Z16) : Z0 :=
  (zz69 big o_0 so_1).bind fun rq1 =>
  some (decide ((rq1.1.length : Int) = (0 : Int)), (()))
def zz70 (o_0 : Y5) (so_1 : Z16) : Z0 := vbeg o_0 so_1
def S_zz70 : Sig := { a := (.pair (.sl (.sl .bool)) (.pair (.clo 72 0 (.pair (.ptr (.opt (.pair (.sl (.sl .bool)) (.pair (.sl (.sl I)) (.pair (.sl (.sl I)) .unit))))) .unit)) .unit)), md := [0, 0], mf := [], m := .unit, r := .bool, rf := .i, f := fun x => zz70 x.1 x.2.1 }
def A_zz70 : Cfg := mkCfg tab [(62, S_zz69)] []
theorem run_zz70 (N : Nat) (x : (S_zz70).a.den) : runF (A_zz70) N Try.f71 S_zz70 x = zz70 x.1 x.2.1 := by kernel_rfl
theorem fn_zz70 : FnOk Try.prog 71 := ⟨_, Try.func71, by kernel_rfl, by kernel_rfl⟩
theorem good_zz70 : Gx.Good Try.prog 71 S_zz70 := vaa Try.func71 (of_decide_eq_true (by kernel_rfl)) fun x r h => ⟨A_zz70, big, vac tabOk, vab (show SigsOk Try.prog [(62, S_zz69)] from ⟨⟨fn_zz69, good_zz69⟩, trivial⟩), (run_zz70 big x).trans h⟩
def vatm (p_0 : Y2) : Z2 :=
  (zz32 p_0).bind fun rq1 =>
  cond rq1.1.2.1
  ((rq1.1.1).bind fun xq2 =>
  (zz70 xq2.1 (rq1.1.1, ())).bind fun rq3 =>
  some ((rq3.1, rq1.1.2.1, ()), (())))
  (some ((false, rq1.1.2.1, ()), (())))
def zz71 (p_0 : Y2) : Z2 := vatm p_0
def S_zz71 : Sig := { a := (.pair (.pair (.sl (.sl I)) .unit) .unit), md := [0], mf := [], m := .unit, r := (.tup (.pair .bool (.pair .bool .unit))), rf := .i, f := fun x => zz71 x.1 }
def A_zz71 : Cfg := mkCfg tab [(51, S_zz32), (71, S_zz70)] [(5, [.drop, .drop, .drop, .drop, .as (.ptr (.opt (.pair (.sl (.sl .bool)) (.pair (.sl (.sl I)) (.pair (.sl (.sl I)) .unit))))) .i, .as .bool .i])]
theorem run_zz71 (N : Nat) (x : (S_zz71).a.den) : runF (A_zz71) N Try.f25 S_zz71 x = zz71 x.1 := by kernel_rfl
theorem fn_zz71 : FnOk Try.prog 25 := ⟨_, Try.func25, by kernel_rfl, by kernel_rfl⟩
theorem good_zz71 : Gx.Good Try.prog 25 S_zz71 := vaa Try.func25 (of_decide_eq_true (by kernel_rfl)) fun x r h => ⟨A_zz71, big, vac tabOk, vab (show SigsOk Try.prog [(51, S_zz32), (71, S_zz70)] from ⟨⟨fn_zz32, good_zz32⟩, ⟨fn_zz70, good_zz70⟩, trivial⟩), (run_zz71 big x).trans h⟩
def vnc (rec : Y4 → Int → Z2) (k : Z2) (counts4 : Y4) (i5 : Int) : Z2 :=
  cond (decide (i5 < (counts4.length : Int)))
  ((atI counts4 i5).bind fun _ =>
  (counts4[i5.toNat]?).bind fun xq3 =>
  cond (decide (xq3 ≠ (1 : Int)))
  (some ((false, true, ()), (())))
  (rec counts4 (IntKind.i64.wrap (i5 + (1 : Int)))))
  (k)
def viw : Z2 :=
  some ((true, true, ()), (()))
def vadq (L5 : Y4 → Int → Z2) (p_0 : Y2) : Z2 :=
  (zz52 big p_0).bind fun rq1 =>
  cond (!rq1.1)
  (some ((false, false, ()), (())))
  ((zz66 big p_0).bind fun rq2 =>
  L5 rq2.1 (0 : Int))
def vln (N : Nat) (k : Z2) : Nat → Y4 → Int → Z2
  | 0, _, _ => none
  | m + 1, counts4, i5 => vnc (vln N k m) k counts4 i5
def valx (N : Nat) (counts4 : Y4) (i5 : Int) : Z2 := vln N (viw) N counts4 i5
def zz72 (N : Nat) (p_0 : Y2) : Z2 := vadq (valx N) p_0
def S_zz72 : Sig := { a := (.pair (.pair (.sl (.sl I)) .unit) .unit), md := [0], mf := [], m := .unit, r := (.tup (.pair .bool (.pair .bool .unit))), rf := .i, f := fun x => zz72 big x.1 }
def A_zz72 : Cfg := mkCfg tab [(55, S_zz52), (70, S_zz66)] [(10, [.drop, .drop, .drop, .drop, .as (.sl I) (.o .i), .as I .i]), (19, [])]
noncomputable def vny (N n : Nat) (K : Ex → St → Z2) (counts4 : Y4) (i5 : Int) : Z2 := iter ((A_zz72).shape 10) (run (A_zz72) N (codeAt Try.f26 [1, 1, 1, 0, 1, 0, 0])) n ([.u, .u, .u, .u, .val (.sl I) (.o .i) counts4, .val I .i i5] ++ List.replicate 16 .u) K
noncomputable abbrev varw : Ex → St → Z2 := finish (A_zz72) S_zz72 Try.f26.results.toList
noncomputable abbrev vsn (kX : St → Z2) : Z2 := kX ([] ++ List.replicate 22 .u)
noncomputable abbrev vzu (kX : St → Z2) (kO : Nat → St → Z2) : Ex → St → Z2 := exK varw 0 ((A_zz72).shape 19) kX kO
theorem vbby (N m : Nat) (kX : St → Z2) (kO : Nat → St → Z2) (counts4 : Y4) (i5 : Int) : vny N (m + 1) (vzu kX kO) counts4 i5 = vnc (vny N m (vzu kX kO)) (vsn kX) counts4 i5 := by kernel_rfl
theorem vaga (N : Nat) (kX : St → Z2) (kO : Nat → St → Z2) : ∀ (n : Nat) (counts4 : Y4) (i5 : Int), vny N n (vzu kX kO) counts4 i5 = vln N (vsn kX) n counts4 i5
  | 0, _, _ => rfl
  | m + 1, counts4, i5 => by
    have hrec : vny N m (vzu kX kO) = (vln N (vsn kX) m) := (funext fun counts4 => (funext fun i5 => vaga N kX kO m counts4 i5))
    refine (vbby N m kX kO counts4 i5).trans ?_
    rw [hrec]
    rfl
noncomputable abbrev vaid (N : Nat) : Ex → St → Z2 := (blockK 0 (seqK ((A_zz72).shape 19) (gated ((A_zz72).shape 500009).isSome N (run (A_zz72) N (codeAt Try.f26 [1, 1, 1, 1]))) varw))
noncomputable abbrev vahk (N : Nat) : St → Z2 := fun st' => run (A_zz72) N (codeAt Try.f26 [1, 1, 1, 1]) st' varw
theorem vawp (N : Nat) : vsn (vahk N) = viw := by kernel_rfl
theorem vblu (N : Nat) (counts4 : Y4) (i5 : Int) : vny N N (vaid N) counts4 i5 = valx N counts4 i5 :=
  have h : vsn (vahk N) = (viw) := vawp N
  ((vad (fun st => by kernel_rfl) (fun st => by kernel_rfl)).trans (vaga N (vahk N) (fun j st => (vaid N) (.exit j) st) N counts4 i5)).trans (congrArg (fun k => vln N k N counts4 i5) h)
theorem run0_zz72 (N : Nat) (x : (S_zz72).a.den) : runF (A_zz72) N Try.f26 S_zz72 x = (vadq (vny N N (vaid N)) x.1) := by kernel_rfl
theorem run_zz72 (N : Nat) (x : (S_zz72).a.den) : runF (A_zz72) N Try.f26 S_zz72 x = zz72 N x.1 := by
  refine (run0_zz72 N x).trans ?_
  rw [(funext fun counts4 => (funext fun i5 => vblu N counts4 i5))]
  rfl
theorem fn_zz72 : FnOk Try.prog 26 := ⟨_, Try.func26, by kernel_rfl, by kernel_rfl⟩
theorem good_zz72 : Gx.Good Try.prog 26 S_zz72 := vaa Try.func26 (of_decide_eq_true (by kernel_rfl)) fun x r h => ⟨A_zz72, big, vac tabOk, vab (show SigsOk Try.prog [(55, S_zz52), (70, S_zz66)] from ⟨⟨fn_zz52, good_zz52⟩, ⟨fn_zz66, good_zz66⟩, trivial⟩), (run_zz72 big x).trans h⟩
def vbep (y_0 : Int) (p_1 : Y1) (p_2 p_3 : Int) : Z0 :=
  (p_1).bind fun xq1 =>
  (atI xq1.1 p_2).bind fun xq2 =>
  (atI xq2 y_0).bind fun xq3 =>
  cond xq3
  ((p_1).bind fun xq4 =>
  (atI xq4.1 y_0).bind fun xq5 =>
  (atI xq5 p_3).bind fun xq6 =>
  cond xq6
  ((zz37 p_1 p_2 y_0 p_3).bind fun rq7 =>
  some (decide ((rq7.1.length : Int) = (0 : Int)), (())))
  (some (false, (()))))
  (some (false, (())))
def zz73 (y_0 : Int) (p_1 : Y1) (p_2 p_3 : Int) : Z0 := vbep y_0 p_1 p_2 p_3
def S_zz73 : Sig := { a := (.pair I (.pair (.ptr (.opt (.pair (.sl (.sl .bool)) (.pair (.sl (.sl I)) (.pair (.sl (.sl I)) .unit))))) (.pair (.ptr I) (.pair (.ptr I) .unit)))), md := [0, 0, 0, 0], mf := [], m := .unit, r := .bool, rf := .i, f := fun x => zz73 x.1 x.2.1 x.2.2.1 x.2.2.2.1 }
def A_zz73 : Cfg := mkCfg tab [(77, S_zz37)] []
theorem run_zz73 (N : Nat) (x : (S_zz73).a.den) : runF (A_zz73) N Try.f76 S_zz73 x = zz73 x.1 x.2.1 x.2.2.1 x.2.2.2.1 := by kernel_rfl
theorem fn_zz73 : FnOk Try.prog 76 := ⟨_, Try.func76, by kernel_rfl, by kernel_rfl⟩
theorem good_zz73 : Gx.Good Try.prog 76 S_zz73 := vaa Try.func76 (of_decide_eq_true (by kernel_rfl)) fun x r h => ⟨A_zz73, big, vac tabOk, vab (show SigsOk Try.prog [(77, S_zz37)] from ⟨⟨fn_zz37, good_zz37⟩, trivial⟩), (run_zz73 big x).trans h⟩
def vqj (rec : (Y1 × Z1) → Y4 → Int → Int → Z5) (k : Y4 → Z5) (so1 : (Y1 × Z1)) (list5 : Y4) (t9 t10 : Int) : Z5 :=
  cond (decide (t10 < t9))
  ((zz73 t10 so1.1 so1.2.1 so1.2.2.1).bind fun rq1 =>
  cond rq1.1
  ((appI list5 [t10]).bind fun xq2 =>
  rec so1 xq2 t9 (IntKind.i64.wrap (t10 + (1 : Int))))
  (rec so1 list5 t9 (IntKind.i64.wrap (t10 + (1 : Int)))))
  (k list5)
def vgu (list5 : Y4) : Z5 :=
  some (list5, (()))
def vatw (L3 : (Y1 × Z1) → Y4 → Int → Int → Z5) (o_0 : Y5) (so_1 : (Y1 × Z1)) : Z5 :=
  L3 so_1 [] (o_0.length : Int) (0 : Int)
def vlv (N : Nat) (k : Y4 → Z5) : Nat → (Y1 × Z1) → Y4 → Int → Int → Z5
  | 0, _, _, _, _ => none
  | m + 1, so1, list5, t9, t10 => vqj (vlv N k m) k so1 list5 t9 t10
def valc (N : Nat) (so1 : (Y1 × Z1)) (list5 : Y4) (t9 t10 : Int) : Z5 := vlv N (vgu) N so1 list5 t9 t10
def zz74 (N : Nat) (o_0 : Y5) (so_1 : (Y1 × Z1)) : Z5 := vatw (valc N) o_0 so_1
def S_zz74 : Sig := { a := (.pair (.sl (.sl .bool)) (.pair (.clo 76 0 (.pair (.ptr (.opt (.pair (.sl (.sl .bool)) (.pair (.sl (.sl I)) (.pair (.sl (.sl I)) .unit))))) (.pair (.ptr I) (.pair (.ptr I) .unit)))) .unit)), md := [0, 0], mf := [], m := .unit, r := (.sl I), rf := (.o .i), f := fun x => zz74 big x.1 x.2.1 }
def A_zz74 : Cfg := mkCfg tab [(76, S_zz73)] [(6, [.drop, .as (.clo 76 0 (.pair (.ptr (.opt (.pair (.sl (.sl .bool)) (.pair (.sl (.sl I)) (.pair (.sl (.sl I)) .unit))))) (.pair (.ptr I) (.pair (.ptr I) .unit)))) .i, .drop, .drop, .drop, .as (.sl I) (.o .i), .drop, .drop, .drop, .as I .i, .as I .i]), (17, [.drop, .drop, .drop, .drop, .drop, .as (.sl I) (.o .i)])]
noncomputable def vog (N n : Nat) (K : Ex → St → Z5) (so1 : (Y1 × Z1)) (list5 : Y4) (t9 t10 : Int) : Z5 := iter ((A_zz74).shape 6) (run (A_zz74) N (codeAt Try.f62 [1, 1, 0, 1, 0, 0])) n ([.u, .val (.clo 76 0 (.pair (.ptr (.opt (.pair (.sl (.sl .bool)) (.pair (.sl (.sl I)) (.pair (.sl (.sl I)) .unit))))) (.pair (.ptr I) (.pair (.ptr I) .unit)))) .i so1, .u, .u, .u, .val (.sl I) (.o .i) list5, .u, .u, .u, .val I .i t9, .val I .i t10] ++ List.replicate 11 .u) K
noncomputable abbrev vasq : Ex → St → Z5 := finish (A_zz74) S_zz74 Try.f62.results.toList
noncomputable abbrev vtu (kX : St → Z5) : Y4 → Z5 := fun (list5 : Y4) => kX ([.u, .u, .u, .u, .u, .val (.sl I) (.o .i) list5] ++ List.replicate 16 .u)
noncomputable abbrev vyg (kX : St → Z5) (kO : Nat → St → Z5) : Ex → St → Z5 := exK vasq 0 ((A_zz74).shape 17) kX kO
theorem vbax (N m : Nat) (kX : St → Z5) (kO : Nat → St → Z5) (so1 : (Y1 × Z1)) (list5 : Y4) (t9 t10 : Int) : vog N (m + 1) (vyg kX kO) so1 list5 t9 t10 = vqj (vog N m (vyg kX kO)) (vtu kX) so1 list5 t9 t10 := by kernel_rfl
theorem vadw (N : Nat) (kX : St → Z5) (kO : Nat → St → Z5) : ∀ (n : Nat) (so1 : (Y1 × Z1)) (list5 : Y4) (t9 t10 : Int), vog N n (vyg kX kO) so1 list5 t9 t10 = vlv N (vtu kX) n so1 list5 t9 t10
  | 0, _, _, _, _ => rfl
  | m + 1, so1, list5, t9, t10 => by
    have hrec : vog N m (vyg kX kO) = (vlv N (vtu kX) m) := (funext fun so1 => (funext fun list5 => (funext fun t9 => (funext fun t10 => vadw N kX kO m so1 list5 t9 t10))))
    refine (vbax N m kX kO so1 list5 t9 t10).trans ?_
    rw [hrec]
    rfl
noncomputable abbrev vaiz (N : Nat) : Ex → St → Z5 := (blockK 0 (seqK ((A_zz74).shape 17) (gated ((A_zz74).shape 500008).isSome N (run (A_zz74) N (codeAt Try.f62 [1, 1, 1]))) vasq))
noncomputable abbrev vahz (N : Nat) : St → Z5 := fun st' => run (A_zz74) N (codeAt Try.f62 [1, 1, 1]) st' vasq
theorem vavv (N : Nat) (list5 : Y4) : vtu (vahz N) list5 = vgu list5 := by kernel_rfl
theorem vbid (N : Nat) (so1 : (Y1 × Z1)) (list5 : Y4) (t9 t10 : Int) : vog N N (vaiz N) so1 list5 t9 t10 = valc N so1 list5 t9 t10 :=
  have h : vtu (vahz N) = (vgu) := (funext fun list5 => vavv N list5)
  ((vad (fun st => by kernel_rfl) (fun st => by kernel_rfl)).trans (vadw N (vahz N) (fun j st => (vaiz N) (.exit j) st) N so1 list5 t9 t10)).trans (congrArg (fun k => vlv N k N so1 list5 t9 t10) h)
theorem run0_zz74 (N : Nat) (x : (S_zz74).a.den) : runF (A_zz74) N Try.f62 S_zz74 x = (vatw (vog N N (vaiz N)) x.1 x.2.1) := by kernel_rfl
theorem run_zz74 (N : Nat) (x : (S_zz74).a.den) : runF (A_zz74) N Try.f62 S_zz74 x = zz74 N x.1 x.2.1 := by
  refine (run0_zz74 N x).trans ?_
  rw [(funext fun so1 => (funext fun list5 => (funext fun t9 => (funext fun t10 => vbid N so1 list5 t9 t10))))]
  rfl
theorem fn_zz74 : FnOk Try.prog 62 := ⟨_, Try.func62, by kernel_rfl, by kernel_rfl⟩
theorem good_zz74 : Gx.Good Try.prog 62 S_zz74 := vaa Try.func62 (of_decide_eq_true (by kernel_rfl)) fun x r h => ⟨A_zz74, big, vac tabOk, vab (show SigsOk Try.prog [(76, S_zz73)] from ⟨⟨fn_zz73, good_zz73⟩, trivial⟩), (run_zz74 big x).trans h⟩
def vbfi (o_0 : Y5) (so_1 : (Y1 × Z1)) : Z0 :=
  (zz74 big o_0 so_1).bind fun rq1 =>
  some (decide ((rq1.1.length : Int) = (0 : Int)), (()))
def zz75 (o_0 : Y5) (so_1 : (Y1 × Z1)) : Z0 := vbfi o_0 so_1
def S_zz75 : Sig := { a := (.pair (.sl (.sl .bool)) (.pair (.clo 76 0 (.pair (.ptr (.opt (.pair (.sl (.sl .bool)) (.pair (.sl (.sl I)) (.pair (.sl (.sl I)) .unit))))) (.pair (.ptr I) (.pair (.ptr I) .unit)))) .unit)), md := [0, 0], mf := [], m := .unit, r := .bool, rf := .i, f := fun x => zz75 x.1 x.2.1 }
def A_zz75 : Cfg := mkCfg tab [(62, S_zz74)] []
theorem run_zz75 (N : Nat) (x : (S_zz75).a.den) : runF (A_zz75) N Try.f71 S_zz75 x = zz75 x.1 x.2.1 := by kernel_rfl
theorem fn_zz75 : FnOk Try.prog 71 := ⟨_, Try.func71, by kernel_rfl, by kernel_rfl⟩
theorem good_zz75 : Gx.Good Try.prog 71 S_zz75 := vaa Try.func71 (of_decide_eq_true (by kernel_rfl)) fun x r h => ⟨A_zz75, big, vac tabOk, vab (show SigsOk Try.prog [(62, S_zz74)] from ⟨⟨fn_zz74, good_zz74⟩, trivial⟩), (run_zz75 big x).trans h⟩
def vbhu (l_0 : Y1) (x_1 z_2 : Int) : Z0 :=
  (l_0).bind fun xq1 =>
  (zz75 xq1.1 (l_0, x_1, z_2, ())).bind fun rq2 =>
  some (rq2.1, (()))
def zz76 (l_0 : Y1) (x_1 z_2 : Int) : Z0 := vbhu l_0 x_1 z_2
def S_zz76 : Sig := { a := (.pair (.opt (.pair (.sl (.sl .bool)) (.pair (.sl (.sl I)) (.pair (.sl (.sl I)) .unit)))) (.pair I (.pair I .unit))), md := [0, 0, 0], mf := [], m := .unit, r := .bool, rf := .i, f := fun x => zz76 x.1 x.2.1 x.2.2.1 }
def A_zz76 : Cfg := mkCfg tab [(71, S_zz75)] [(3, [.drop, .drop, .drop, .as (.ptr (.opt (.pair (.sl (.sl .bool)) (.pair (.sl (.sl I)) (.pair (.sl (.sl I)) .unit))))) .i, .as (.ptr I) .i, .as (.ptr I) .i])]
theorem run_zz76 (N : Nat) (x : (S_zz76).a.den) : runF (A_zz76) N Try.f75 S_zz76 x = zz76 x.1 x.2.1 x.2.2.1 := by kernel_rfl
theorem fn_zz76 : FnOk Try.prog 75 := ⟨_, Try.func75, by kernel_rfl, by kernel_rfl⟩
theorem good_zz76 : Gx.Good Try.prog 75 S_zz76 := vaa Try.func75 (of_decide_eq_true (by kernel_rfl)) fun x r h => ⟨A_zz76, big, vac tabOk, vab (show SigsOk Try.prog [(71, S_zz75)] from ⟨⟨fn_zz75, good_zz75⟩, trivial⟩), (run_zz76 big x).trans h⟩
def vnw (rec : Unit → Y1 → Int → Int → Int → Int → Int → Z2) (k : Unit → Y1 → Int → Int → Z2) (so1 : Unit) (l6 : Y1) (x8 t21 t22 t29 t30 : Int) : Z2 :=
  cond (decide (t30 < t29))
  ((zz76 l6 x8 t30).bind fun rq4 =>
  cond (!rq4.1)
  (some ((false, true, ()), (())))
  (rec so1 l6 x8 t21 t22 t29 (IntKind.i64.wrap (t30 + (1 : Int)))))
  (k so1 l6 t21 t22)
def vin (rec : Unit → Y1 → Int → Int → Z2) (so1 : Unit) (l6 : Y1) (t21 t22 : Int) : Z2 :=
  rec so1 l6 t21 (IntKind.i64.wrap (t22 + (1 : Int)))
def vng (L8 : Unit → Y1 → Int → Int → Int → Int → Int → Z2) (k : Z2) (so1 : Unit) (l6 : Y1) (t21 t22 : Int) : Z2 :=
  cond (decide (t22 < t21))
  ((l6).bind fun xq3 =>
  L8 so1 l6 t22 t21 t22 (xq3.1.length : Int) (0 : Int))
  (k)
def vdf : Z2 :=
  some ((true, true, ()), (()))
def vact (L5 : Unit → Y1 → Int → Int → Z2) (p_0 : Y2) (so_1 : Unit) : Z2 :=
  (zz32 p_0).bind fun rq1 =>
  cond (!rq1.1.2.1)
  (some ((false, false, ()), (())))
  ((rq1.1.1).bind fun xq2 =>
  L5 so_1 rq1.1.1 (xq2.1.length : Int) (0 : Int))
def vmq (N : Nat) (k : Unit → Y1 → Int → Int → Z2) : Nat → Unit → Y1 → Int → Int → Int → Int → Int → Z2
  | 0, _, _, _, _, _, _, _ => none
  | m + 1, so1, l6, x8, t21, t22, t29, t30 => vnw (vmq N k m) k so1 l6 x8 t21 t22 t29 t30
def vua (N : Nat) (rec : Unit → Y1 → Int → Int → Z2) (k : Z2) (so1 : Unit) (l6 : Y1) (x8 t21 t22 t29 t30 : Int) : Z2 := vmq N (vin rec) N so1 l6 x8 t21 t22 t29 t30
def vhv (N : Nat) (k : Z2) : Nat → Unit → Y1 → Int → Int → Z2
  | 0, _, _, _, _ => none
  | m + 1, so1, l6, t21, t22 => vng (vua N (vhv N k m) k) k so1 l6 t21 t22
def vzv (N : Nat) (so1 : Unit) (l6 : Y1) (t21 t22 : Int) : Z2 := vhv N (vdf) N so1 l6 t21 t22
def zz77 (N : Nat) (p_0 : Y2) (so_1 : Unit) : Z2 := vact (vzv N) p_0 so_1
def S_zz77 : Sig := { a := (.pair (.pair (.sl (.sl I)) .unit) (.pair (.clo 75 0 .unit) .unit)), md := [0, 0], mf := [], m := .unit, r := (.tup (.pair .bool (.pair .bool .unit))), rf := .i, f := fun x => zz77 big x.1 x.2.1 }
def A_zz77 : Cfg := mkCfg tab [(51, S_zz32), (75, S_zz76)] [(10, [.drop, .as (.clo 75 0 .unit) .i, .drop, .drop, .drop, .drop, .as (.opt (.pair (.sl (.sl .bool)) (.pair (.sl (.sl I)) (.pair (.sl (.sl I)) .unit)))) .i, .drop, .drop, .drop, .drop, .drop, .drop, .drop, .drop, .drop, .drop, .drop, .drop, .drop, .drop, .as I .i, .as I .i]), (16, [.drop, .as (.clo 75 0 .unit) .i, .drop, .drop, .drop, .drop, .as (.opt (.pair (.sl (.sl .bool)) (.pair (.sl (.sl I)) (.pair (.sl (.sl I)) .unit)))) .i, .drop, .as I .i, .drop, .drop, .drop, .drop, .drop, .drop, .drop, .drop, .drop, .drop, .drop, .drop, .as I .i, .as I .i, .drop, .drop, .drop, .drop, .drop, .drop, .as I .i, .as I .i]), (29, []), (27, [.drop, .as (.clo 75 0 .unit) .i, .drop, .drop, .drop, .drop, .as (.opt (.pair (.sl (.sl .bool)) (.pair (.sl (.sl I)) (.pair (.sl (.sl I)) .unit)))) .i, .drop, .drop, .drop, .drop, .drop, .drop, .drop, .drop, .drop, .drop, .drop, .drop, .drop, .drop, .as I .i, .as I .i])]
noncomputable def vhg (N n : Nat) (K : Ex → St → Z2) (so1 : Unit) (l6 : Y1) (t21 t22 : Int) : Z2 := iter ((A_zz77).shape 10) (run (A_zz77) N (codeAt Try.f74 [1, 1, 1, 0, 1, 0, 0])) n ([.u, .val (.clo 75 0 .unit) .i so1, .u, .u, .u, .u, .val (.opt (.pair (.sl (.sl .bool)) (.pair (.sl (.sl I)) (.pair (.sl (.sl I)) .unit)))) .i l6, .u, .u, .u, .u, .u, .u, .u, .u, .u, .u, .u, .u, .u, .u, .val I .i t21, .val I .i t22] ++ List.replicate 18 .u) K
noncomputable def vmi (N n : Nat) (K : Ex → St → Z2) (so1 : Unit) (l6 : Y1) (x8 t21 t22 t29 t30 : Int) : Z2 := iter ((A_zz77).shape 16) (run (A_zz77) N (codeAt Try.f74 [1, 1, 1, 0, 1, 0, 0, 1, 1, 0, 0, 1, 1, 0, 0])) n ([.u, .val (.clo 75 0 .unit) .i so1, .u, .u, .u, .u, .val (.opt (.pair (.sl (.sl .bool)) (.pair (.sl (.sl I)) (.pair (.sl (.sl I)) .unit)))) .i l6, .u, .val I .i x8, .u, .u, .u, .u, .u, .u, .u, .u, .u, .u, .u, .u, .val I .i t21, .val I .i t22, .u, .u, .u, .u, .u, .u, .val I .i t29, .val I .i t30] ++ List.replicate 10 .u) K
noncomputable abbrev vafw : Ex → St → Z2 := finish (A_zz77) S_zz77 Try.f74.results.toList
noncomputable abbrev vio (kX : St → Z2) : Z2 := kX ([] ++ List.replicate 41 .u)
noncomputable abbrev vid (kX : St → Z2) (kO : Nat → St → Z2) : Ex → St → Z2 := exK vafw 0 ((A_zz77).shape 29) kX kO
noncomputable abbrev vud (kX : St → Z2) : Unit → Y1 → Int → Int → Z2 := fun (so1 : Unit) (l6 : Y1) (t21 t22 : Int) => kX ([.u, .val (.clo 75 0 .unit) .i so1, .u, .u, .u, .u, .val (.opt (.pair (.sl (.sl .bool)) (.pair (.sl (.sl I)) (.pair (.sl (.sl I)) .unit)))) .i l6, .u, .u, .u, .u, .u, .u, .u, .u, .u, .u, .u, .u, .u, .u, .val I .i t21, .val I .i t22] ++ List.replicate 18 .u)
noncomputable abbrev vzc (kX : St → Z2) (kO : Nat → St → Z2) : Ex → St → Z2 := exK vafw 2 ((A_zz77).shape 27) kX kO
theorem vbah (N m : Nat) (kX : St → Z2) (kO : Nat → St → Z2) (so1 : Unit) (l6 : Y1) (x8 t21 t22 t29 t30 : Int) : vmi N (m + 1) (vzc kX kO) so1 l6 x8 t21 t22 t29 t30 = vnw (vmi N m (vzc kX kO)) (vud kX) so1 l6 x8 t21 t22 t29 t30 := by kernel_rfl
theorem vagf (N : Nat) (kX : St → Z2) (kO : Nat → St → Z2) : ∀ (n : Nat) (so1 : Unit) (l6 : Y1) (x8 t21 t22 t29 t30 : Int), vmi N n (vzc kX kO) so1 l6 x8 t21 t22 t29 t30 = vmq N (vud kX) n so1 l6 x8 t21 t22 t29 t30
  | 0, _, _, _, _, _, _, _ => rfl
  | m + 1, so1, l6, x8, t21, t22, t29, t30 => by
    have hrec : vmi N m (vzc kX kO) = (vmq N (vud kX) m) := (funext fun so1 => (funext fun l6 => (funext fun x8 => (funext fun t21 => (funext fun t22 => (funext fun t29 => (funext fun t30 => vagf N kX kO m so1 l6 x8 t21 t22 t29 t30)))))))
    refine (vbah N m kX kO so1 l6 x8 t21 t22 t29 t30).trans ?_
    rw [hrec]
    rfl
noncomputable abbrev valz (N m : Nat) (kX : St → Z2) (kO : Nat → St → Z2) : Ex → St → Z2 := (blockK 2 (blockK 1 (seqK ((A_zz77).shape 27) (gated ((A_zz77).shape 500013).isSome N (run (A_zz77) N (codeAt Try.f74 [1, 1, 1, 0, 1, 0, 0, 1, 1, 1]))) (iterK ((A_zz77).shape 10) (run (A_zz77) N (codeAt Try.f74 [1, 1, 1, 0, 1, 0, 0])) m (vid kX kO)))))
noncomputable abbrev vaji (N m : Nat) (kX : St → Z2) (kO : Nat → St → Z2) : St → Z2 := fun st' => run (A_zz77) N (codeAt Try.f74 [1, 1, 1, 0, 1, 0, 0, 1, 1, 1]) st' (iterK ((A_zz77).shape 10) (run (A_zz77) N (codeAt Try.f74 [1, 1, 1, 0, 1, 0, 0])) m (vid kX kO))
theorem vavq (N m : Nat) (kX : St → Z2) (kO : Nat → St → Z2) (so1 : Unit) (l6 : Y1) (t21 t22 : Int) : vud (vaji N m kX kO) so1 l6 t21 t22 = vin (vhg N m (vid kX kO)) so1 l6 t21 t22 := by kernel_rfl
theorem vbij (N m : Nat) (kX : St → Z2) (kO : Nat → St → Z2) (recF : Unit → Y1 → Int → Int → Z2) (hrec : vhg N m (vid kX kO) = recF) (so1 : Unit) (l6 : Y1) (x8 t21 t22 t29 t30 : Int) : vmi N N (valz N m kX kO) so1 l6 x8 t21 t22 t29 t30 = vua N recF (vio kX) so1 l6 x8 t21 t22 t29 t30 :=
  have h : vud (vaji N m kX kO) = (vin recF) := (funext fun so1 => (funext fun l6 => (funext fun t21 => (funext fun t22 => (vavq N m kX kO so1 l6 t21 t22).trans (by rw [hrec])))))
  ((vad (fun st => by kernel_rfl) (fun st => by kernel_rfl)).trans (vagf N (vaji N m kX kO) (fun j st => (valz N m kX kO) (.exit j) st) N so1 l6 x8 t21 t22 t29 t30)).trans (congrArg (fun k => vmq N k N so1 l6 x8 t21 t22 t29 t30) h)
theorem vbay (N m : Nat) (kX : St → Z2) (kO : Nat → St → Z2) (so1 : Unit) (l6 : Y1) (t21 t22 : Int) : vhg N (m + 1) (vid kX kO) so1 l6 t21 t22 = vng (vmi N N (valz N m kX kO)) (vio kX) so1 l6 t21 t22 := by kernel_rfl
theorem vaet (N : Nat) (kX : St → Z2) (kO : Nat → St → Z2) : ∀ (n : Nat) (so1 : Unit) (l6 : Y1) (t21 t22 : Int), vhg N n (vid kX kO) so1 l6 t21 t22 = vhv N (vio kX) n so1 l6 t21 t22
  | 0, _, _, _, _ => rfl
  | m + 1, so1, l6, t21, t22 => by
    have hrec : vhg N m (vid kX kO) = (vhv N (vio kX) m) := (funext fun so1 => (funext fun l6 => (funext fun t21 => (funext fun t22 => vaet N kX kO m so1 l6 t21 t22))))
    refine (vbay N m kX kO so1 l6 t21 t22).trans ?_
    rw [(funext fun so1 => (funext fun l6 => (funext fun x8 => (funext fun t21 => (funext fun t22 => (funext fun t29 => (funext fun t30 => vbij N m kX kO (vhv N (vio kX) m) hrec so1 l6 x8 t21 t22 t29 t30)))))))]
    rfl
noncomputable abbrev vahq (N : Nat) : Ex → St → Z2 := (blockK 0 (seqK ((A_zz77).shape 29) (gated ((A_zz77).shape 500014).isSome N (run (A_zz77) N (codeAt Try.f74 [1, 1, 1, 1]))) vafw))
noncomputable abbrev vaim (N : Nat) : St → Z2 := fun st' => run (A_zz77) N (codeAt Try.f74 [1, 1, 1, 1]) st' vafw
theorem vavx (N : Nat) : vio (vaim N) = vdf := by kernel_rfl
theorem vbin (N : Nat) (so1 : Unit) (l6 : Y1) (t21 t22 : Int) : vhg N N (vahq N) so1 l6 t21 t22 = vzv N so1 l6 t21 t22 :=
  have h : vio (vaim N) = (vdf) := vavx N
  ((vad (fun st => by kernel_rfl) (fun st => by kernel_rfl)).trans (vaet N (vaim N) (fun j st => (vahq N) (.exit j) st) N so1 l6 t21 t22)).trans (congrArg (fun k => vhv N k N so1 l6 t21 t22) h)
theorem run0_zz77 (N : Nat) (x : (S_zz77).a.den) : runF (A_zz77) N Try.f74 S_zz77 x = (vact (vhg N N (vahq N)) x.1 x.2.1) := by kernel_rfl
theorem run_zz77 (N : Nat) (x : (S_zz77).a.den) : runF (A_zz77) N Try.f74 S_zz77 x = zz77 N x.1 x.2.1 := by
  refine (run0_zz77 N x).trans ?_
  rw [(funext fun so1 => (funext fun l6 => (funext fun t21 => (funext fun t22 => vbin N so1 l6 t21 t22))))]
  rfl
theorem fn_zz77 : FnOk Try.prog 74 := ⟨_, Try.func74, by kernel_rfl, by kernel_rfl⟩
theorem good_zz77 : Gx.Good Try.prog 74 S_zz77 := vaa Try.func74 (of_decide_eq_true (by kernel_rfl)) fun x r h => ⟨A_zz77, big, vac tabOk, vab (show SigsOk Try.prog [(51, S_zz32), (75, S_zz76)] from ⟨⟨fn_zz32, good_zz32⟩, ⟨fn_zz76, good_zz76⟩, trivial⟩), (run_zz77 big x).trans h⟩
def vatu (p_0 : Y2) : Z2 :=
  (zz77 big p_0 ()).bind fun rq1 =>
  some ((rq1.1.1, rq1.1.2.1, ()), (()))
def zz78 (p_0 : Y2) : Z2 := vatu p_0
def S_zz78 : Sig := { a := (.pair (.pair (.sl (.sl I)) .unit) .unit), md := [0], mf := [], m := .unit, r := (.tup (.pair .bool (.pair .bool .unit))), rf := .i, f := fun x => zz78 x.1 }
def A_zz78 : Cfg := mkCfg tab [(74, S_zz77)] []
theorem run_zz78 (N : Nat) (x : (S_zz78).a.den) : runF (A_zz78) N Try.f27 S_zz78 x = zz78 x.1 := by kernel_rfl
theorem fn_zz78 : FnOk Try.prog 27 := ⟨_, Try.func27, by kernel_rfl, by kernel_rfl⟩
theorem good_zz78 : Gx.Good Try.prog 27 S_zz78 := vaa Try.func27 (of_decide_eq_true (by kernel_rfl)) fun x r h => ⟨A_zz78, big, vac tabOk, vab (show SigsOk Try.prog [(74, S_zz77)] from ⟨⟨fn_zz77, good_zz77⟩, trivial⟩), (run_zz78 big x).trans h⟩
def vir (rec : Y2 → Int → Int → Int → Z2) (k : Y2 → Int → Int → Z2) (p1 : Y2) (x4 y5 z6 : Int) : Z2 :=
  cond (decide (z6 < (p1.1.length : Int)))
  ((zz15 p1 x4 y5).bind fun rq2 =>
  cond rq2.1
  ((zz15 p1 y5 z6).bind fun rq3 =>
  cond rq3.1
  ((zz57 big p1 x4 y5 z6).bind fun rq4 =>
  cond (decide ((rq4.1.length : Int) = (0 : Int)))
  (some ((false, true, ()), (())))
  (rec p1 x4 y5 (IntKind.i64.wrap (z6 + (1 : Int)))))
  (rec p1 x4 y5 (IntKind.i64.wrap (z6 + (1 : Int)))))
  (rec p1 x4 y5 (IntKind.i64.wrap (z6 + (1 : Int)))))
  (k p1 x4 y5)
def ved (rec : Y2 → Int → Int → Z2) (p1 : Y2) (x4 y5 : Int) : Z2 :=
  rec p1 x4 (IntKind.i64.wrap (y5 + (1 : Int)))
def vot (L10 : Y2 → Int → Int → Int → Z2) (k : Y2 → Int → Z2) (p1 : Y2) (x4 y5 : Int) : Z2 :=
  cond (decide (y5 < (p1.1.length : Int)))
  (L10 p1 x4 y5 (0 : Int))
  (k p1 x4)
def vdc (rec : Y2 → Int → Z2) (p1 : Y2) (x4 : Int) : Z2 :=
  rec p1 (IntKind.i64.wrap (x4 + (1 : Int)))
def vov (L7 : Y2 → Int → Int → Z2) (k : Z2) (p1 : Y2) (x4 : Int) : Z2 :=
  cond (decide (x4 < (p1.1.length : Int)))
  (L7 p1 x4 (0 : Int))
  (k)
def vcy : Z2 :=
  some ((true, true, ()), (()))
def vaea (L4 : Y2 → Int → Z2) (p_0 : Y2) : Z2 :=
  (zz52 big p_0).bind fun rq1 =>
  cond (!rq1.1)
  (some ((false, false, ()), (())))
  (L4 p_0 (0 : Int))
def vib (N : Nat) (k : Y2 → Int → Int → Z2) : Nat → Y2 → Int → Int → Int → Z2
  | 0, _, _, _, _ => none
  | m + 1, p1, x4, y5, z6 => vir (vib N k m) k p1 x4 y5 z6
def vqp (N : Nat) (rec : Y2 → Int → Int → Z2) (k : Y2 → Int → Z2) (p1 : Y2) (x4 y5 z6 : Int) : Z2 := vib N (ved rec) N p1 x4 y5 z6
def vkj (N : Nat) (k : Y2 → Int → Z2) : Nat → Y2 → Int → Int → Z2
  | 0, _, _, _ => none
  | m + 1, p1, x4, y5 => vot (vqp N (vkj N k m) k) k p1 x4 y5
def vsw (N : Nat) (rec : Y2 → Int → Z2) (k : Z2) (p1 : Y2) (x4 y5 : Int) : Z2 := vkj N (vdc rec) N p1 x4 y5
def vik (N : Nat) (k : Z2) : Nat → Y2 → Int → Z2
  | 0, _, _ => none
  | m + 1, p1, x4 => vov (vsw N (vik N k m) k) k p1 x4
def vamo (N : Nat) (p1 : Y2) (x4 : Int) : Z2 := vik N (vcy) N p1 x4
def zz79 (N : Nat) (p_0 : Y2) : Z2 := vaea (vamo N) p_0
def S_zz79 : Sig := { a := (.pair (.pair (.sl (.sl I)) .unit) .unit), md := [0], mf := [], m := .unit, r := (.tup (.pair .bool (.pair .bool .unit))), rf := .i, f := fun x => zz79 big x.1 }
def A_zz79 : Cfg := mkCfg tab [(55, S_zz52), (78, S_zz15), (64, S_zz57)] [(8, [.drop, .as y1 (.o .i), .drop, .drop, .as I .i]), (14, [.drop, .as y1 (.o .i), .drop, .drop, .as I .i, .as I .i]), (29, []), (20, [.drop, .as y1 (.o .i), .drop, .drop, .as I .i, .as I .i, .as I .i]), (11, [.drop, .as y1 (.o .i), .drop, .drop, .as I .i]), (17, [.drop, .as y1 (.o .i), .drop, .drop, .as I .i, .as I .i])]
noncomputable def vez (N n : Nat) (K : Ex → St → Z2) (p1 : Y2) (x4 : Int) : Z2 := iter ((A_zz79).shape 8) (run (A_zz79) N (codeAt Try.f28 [1, 1, 0, 1, 0, 0])) n ([.u, .val y1 (.o .i) p1, .u, .u, .val I .i x4] ++ List.replicate 45 .u) K
noncomputable def vge (N n : Nat) (K : Ex → St → Z2) (p1 : Y2) (x4 y5 : Int) : Z2 := iter ((A_zz79).shape 14) (run (A_zz79) N (codeAt Try.f28 [1, 1, 0, 1, 0, 0, 1, 0, 0, 1, 0, 0])) n ([.u, .val y1 (.o .i) p1, .u, .u, .val I .i x4, .val I .i y5] ++ List.replicate 44 .u) K
noncomputable def vfk (N n : Nat) (K : Ex → St → Z2) (p1 : Y2) (x4 y5 z6 : Int) : Z2 := iter ((A_zz79).shape 20) (run (A_zz79) N (codeAt Try.f28 [1, 1, 0, 1, 0, 0, 1, 0, 0, 1, 0, 0, 1, 0, 0, 1, 0, 0])) n ([.u, .val y1 (.o .i) p1, .u, .u, .val I .i x4, .val I .i y5, .val I .i z6] ++ List.replicate 43 .u) K
noncomputable abbrev vxp : Ex → St → Z2 := finish (A_zz79) S_zz79 Try.f28.results.toList
noncomputable abbrev vhr (kX : St → Z2) : Z2 := kX ([] ++ List.replicate 50 .u)
noncomputable abbrev vff (kX : St → Z2) (kO : Nat → St → Z2) : Ex → St → Z2 := exK vxp 0 ((A_zz79).shape 29) kX kO
noncomputable abbrev via (kX : St → Z2) : Y2 → Int → Z2 := fun (p1 : Y2) (x4 : Int) => kX ([.u, .val y1 (.o .i) p1, .u, .u, .val I .i x4] ++ List.replicate 45 .u)
noncomputable abbrev vis (kX : St → Z2) (kO : Nat → St → Z2) : Ex → St → Z2 := exK vxp 2 ((A_zz79).shape 11) kX kO
noncomputable abbrev vri (kX : St → Z2) : Y2 → Int → Int → Z2 := fun (p1 : Y2) (x4 y5 : Int) => kX ([.u, .val y1 (.o .i) p1, .u, .u, .val I .i x4, .val I .i y5] ++ List.replicate 44 .u)
noncomputable abbrev vvk (kX : St → Z2) (kO : Nat → St → Z2) : Ex → St → Z2 := exK vxp 4 ((A_zz79).shape 17) kX kO
theorem vaxd (N m : Nat) (kX : St → Z2) (kO : Nat → St → Z2) (p1 : Y2) (x4 y5 z6 : Int) : vfk N (m + 1) (vvk kX kO) p1 x4 y5 z6 = vir (vfk N m (vvk kX kO)) (vri kX) p1 x4 y5 z6 := by kernel_rfl
theorem vaar (N : Nat) (kX : St → Z2) (kO : Nat → St → Z2) : ∀ (n : Nat) (p1 : Y2) (x4 y5 z6 : Int), vfk N n (vvk kX kO) p1 x4 y5 z6 = vib N (vri kX) n p1 x4 y5 z6
  | 0, _, _, _, _ => rfl
  | m + 1, p1, x4, y5, z6 => by
    have hrec : vfk N m (vvk kX kO) = (vib N (vri kX) m) := (funext fun p1 => (funext fun x4 => (funext fun y5 => (funext fun z6 => vaar N kX kO m p1 x4 y5 z6))))
    refine (vaxd N m kX kO p1 x4 y5 z6).trans ?_
    rw [hrec]
    rfl
noncomputable abbrev vabh (N m : Nat) (kX : St → Z2) (kO : Nat → St → Z2) : Ex → St → Z2 := (blockK 4 (blockK 3 (seqK ((A_zz79).shape 17) (gated ((A_zz79).shape 500008).isSome N (run (A_zz79) N (codeAt Try.f28 [1, 1, 0, 1, 0, 0, 1, 0, 0, 1, 0, 0, 1, 1]))) (iterK ((A_zz79).shape 14) (run (A_zz79) N (codeAt Try.f28 [1, 1, 0, 1, 0, 0, 1, 0, 0, 1, 0, 0])) m (vis kX kO)))))
noncomputable abbrev vabc (N m : Nat) (kX : St → Z2) (kO : Nat → St → Z2) : St → Z2 := fun st' => run (A_zz79) N (codeAt Try.f28 [1, 1, 0, 1, 0, 0, 1, 0, 0, 1, 0, 0, 1, 1]) st' (iterK ((A_zz79).shape 14) (run (A_zz79) N (codeAt Try.f28 [1, 1, 0, 1, 0, 0, 1, 0, 0, 1, 0, 0])) m (vis kX kO))
theorem vasf (N m : Nat) (kX : St → Z2) (kO : Nat → St → Z2) (p1 : Y2) (x4 y5 : Int) : vri (vabc N m kX kO) p1 x4 y5 = ved (vge N m (vis kX kO)) p1 x4 y5 := by kernel_rfl
theorem vbfc (N m : Nat) (kX : St → Z2) (kO : Nat → St → Z2) (recF : Y2 → Int → Int → Z2) (hrec : vge N m (vis kX kO) = recF) (p1 : Y2) (x4 y5 z6 : Int) : vfk N N (vabh N m kX kO) p1 x4 y5 z6 = vqp N recF (via kX) p1 x4 y5 z6 :=
  have h : vri (vabc N m kX kO) = (ved recF) := (funext fun p1 => (funext fun x4 => (funext fun y5 => (vasf N m kX kO p1 x4 y5).trans (by rw [hrec]))))
  ((vad (fun st => by kernel_rfl) (fun st => by kernel_rfl)).trans (vaar N (vabc N m kX kO) (fun j st => (vabh N m kX kO) (.exit j) st) N p1 x4 y5 z6)).trans (congrArg (fun k => vib N k N p1 x4 y5 z6) h)
theorem vbcz (N m : Nat) (kX : St → Z2) (kO : Nat → St → Z2) (p1 : Y2) (x4 y5 : Int) : vge N (m + 1) (vis kX kO) p1 x4 y5 = vot (vfk N N (vabh N m kX kO)) (via kX) p1 x4 y5 := by kernel_rfl
theorem vafr (N : Nat) (kX : St → Z2) (kO : Nat → St → Z2) : ∀ (n : Nat) (p1 : Y2) (x4 y5 : Int), vge N n (vis kX kO) p1 x4 y5 = vkj N (via kX) n p1 x4 y5
  | 0, _, _, _ => rfl
  | m + 1, p1, x4, y5 => by
    have hrec : vge N m (vis kX kO) = (vkj N (via kX) m) := (funext fun p1 => (funext fun x4 => (funext fun y5 => vafr N kX kO m p1 x4 y5)))
    refine (vbcz N m kX kO p1 x4 y5).trans ?_
    rw [(funext fun p1 => (funext fun x4 => (funext fun y5 => (funext fun z6 => vbfc N m kX kO (vkj N (via kX) m) hrec p1 x4 y5 z6))))]
    rfl
noncomputable abbrev vajz (N m : Nat) (kX : St → Z2) (kO : Nat → St → Z2) : Ex → St → Z2 := (blockK 2 (blockK 1 (seqK ((A_zz79).shape 11) (gated ((A_zz79).shape 500005).isSome N (run (A_zz79) N (codeAt Try.f28 [1, 1, 0, 1, 0, 0, 1, 1]))) (iterK ((A_zz79).shape 8) (run (A_zz79) N (codeAt Try.f28 [1, 1, 0, 1, 0, 0])) m (vff kX kO)))))
noncomputable abbrev valn (N m : Nat) (kX : St → Z2) (kO : Nat → St → Z2) : St → Z2 := fun st' => run (A_zz79) N (codeAt Try.f28 [1, 1, 0, 1, 0, 0, 1, 1]) st' (iterK ((A_zz79).shape 8) (run (A_zz79) N (codeAt Try.f28 [1, 1, 0, 1, 0, 0])) m (vff kX kO))
theorem vawt (N m : Nat) (kX : St → Z2) (kO : Nat → St → Z2) (p1 : Y2) (x4 : Int) : via (valn N m kX kO) p1 x4 = vdc (vez N m (vff kX kO)) p1 x4 := by kernel_rfl
theorem vbjl (N m : Nat) (kX : St → Z2) (kO : Nat → St → Z2) (recF : Y2 → Int → Z2) (hrec : vez N m (vff kX kO) = recF) (p1 : Y2) (x4 y5 : Int) : vge N N (vajz N m kX kO) p1 x4 y5 = vsw N recF (vhr kX) p1 x4 y5 :=
  have h : via (valn N m kX kO) = (vdc recF) := (funext fun p1 => (funext fun x4 => (vawt N m kX kO p1 x4).trans (by rw [hrec])))
  ((vad (fun st => by kernel_rfl) (fun st => by kernel_rfl)).trans (vafr N (valn N m kX kO) (fun j st => (vajz N m kX kO) (.exit j) st) N p1 x4 y5)).trans (congrArg (fun k => vkj N k N p1 x4 y5) h)
theorem vbbp (N m : Nat) (kX : St → Z2) (kO : Nat → St → Z2) (p1 : Y2) (x4 : Int) : vez N (m + 1) (vff kX kO) p1 x4 = vov (vge N N (vajz N m kX kO)) (vhr kX) p1 x4 := by kernel_rfl
theorem vadb (N : Nat) (kX : St → Z2) (kO : Nat → St → Z2) : ∀ (n : Nat) (p1 : Y2) (x4 : Int), vez N n (vff kX kO) p1 x4 = vik N (vhr kX) n p1 x4
  | 0, _, _ => rfl
  | m + 1, p1, x4 => by
    have hrec : vez N m (vff kX kO) = (vik N (vhr kX) m) := (funext fun p1 => (funext fun x4 => vadb N kX kO m p1 x4))
    refine (vbbp N m kX kO p1 x4).trans ?_
    rw [(funext fun p1 => (funext fun x4 => (funext fun y5 => vbjl N m kX kO (vik N (vhr kX) m) hrec p1 x4 y5)))]
    rfl
noncomputable abbrev vahw (N : Nat) : Ex → St → Z2 := (blockK 0 (seqK ((A_zz79).shape 29) (gated ((A_zz79).shape 500014).isSome N (run (A_zz79) N (codeAt Try.f28 [1, 1, 1]))) vxp))
noncomputable abbrev vajr (N : Nat) : St → Z2 := fun st' => run (A_zz79) N (codeAt Try.f28 [1, 1, 1]) st' vxp
theorem vayo (N : Nat) : vhr (vajr N) = vcy := by kernel_rfl
theorem vbje (N : Nat) (p1 : Y2) (x4 : Int) : vez N N (vahw N) p1 x4 = vamo N p1 x4 :=
  have h : vhr (vajr N) = (vcy) := vayo N
  ((vad (fun st => by kernel_rfl) (fun st => by kernel_rfl)).trans (vadb N (vajr N) (fun j st => (vahw N) (.exit j) st) N p1 x4)).trans (congrArg (fun k => vik N k N p1 x4) h)
theorem run0_zz79 (N : Nat) (x : (S_zz79).a.den) : runF (A_zz79) N Try.f28 S_zz79 x = (vaea (vez N N (vahw N)) x.1) := by kernel_rfl
theorem run_zz79 (N : Nat) (x : (S_zz79).a.den) : runF (A_zz79) N Try.f28 S_zz79 x = zz79 N x.1 := by
  refine (run0_zz79 N x).trans ?_
  rw [(funext fun p1 => (funext fun x4 => vbje N p1 x4))]
  rfl
theorem fn_zz79 : FnOk Try.prog 28 := ⟨_, Try.func28, by kernel_rfl, by kernel_rfl⟩
theorem good_zz79 : Gx.Good Try.prog 28 S_zz79 := vaa Try.func28 (of_decide_eq_true (by kernel_rfl)) fun x r h => ⟨A_zz79, big, vac tabOk, vab (show SigsOk Try.prog [(55, S_zz52), (78, S_zz15), (64, S_zz57)] from ⟨⟨fn_zz52, good_zz52⟩, ⟨fn_zz15, good_zz15⟩, ⟨fn_zz57, good_zz57⟩, trivial⟩), (run_zz79 big x).trans h⟩
end Go.Proofs.Ytcdlbboeflehdaa
