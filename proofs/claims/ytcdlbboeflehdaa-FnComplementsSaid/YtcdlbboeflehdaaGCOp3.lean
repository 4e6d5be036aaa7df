import Derived.Test.YtcdlbboeflehdaaGCOp2
set_option maxRecDepth 100000
set_option linter.unusedVariables false
namespace Go.Proofs.Ytcdlbboeflehdaa
open Go Go.Gx Go.Proofs
def vpf (rec : (Y1 × Z1) → Y4 → Int → Int → Z5) (k : Y4 → Z5) (so1 : (Y1 × Z1)) (list5 : Y4) (t9 t10 : Int) : Z5 :=
  cond (decide (t10 < t9))
  ((zz39 t10 so1.1 so1.2.1 so1.2.2.1).bind fun rq1 =>
  cond rq1.1
  ((appI list5 [t10]).bind fun xq2 =>
  rec so1 xq2 t9 (IntKind.i64.wrap (t10 + (1 : Int))))
  (rec so1 list5 t9 (IntKind.i64.wrap (t10 + (1 : Int)))))
  (k list5)
def vhy (list5 : Y4) : Z5 :=
  some (list5, (()))
def vase (L3 : (Y1 × Z1) → Y4 → Int → Int → Z5) (o_0 : Y5) (so_1 : (Y1 × Z1)) : Z5 :=
  L3 so_1 [] (o_0.length : Int) (0 : Int)
def vme (N : Nat) (k : Y4 → Z5) : Nat → (Y1 × Z1) → Y4 → Int → Int → Z5
  | 0, _, _, _, _ => none
  | m + 1, so1, list5, t9, t10 => vpf (vme N k m) k so1 list5 t9 t10
def vakd (N : Nat) (so1 : (Y1 × Z1)) (list5 : Y4) (t9 t10 : Int) : Z5 := vme N (vhy) N so1 list5 t9 t10
def zz40 (N : Nat) (o_0 : Y5) (so_1 : (Y1 × Z1)) : Z5 := vase (vakd N) o_0 so_1
def S_zz40 : Sig := { a := (.pair (.sl (.sl .bool)) (.pair (.clo 112 0 (.pair (.ptr (.opt (.pair (.sl (.sl .bool)) (.pair (.sl (.sl I)) (.pair (.sl (.sl I)) .unit))))) (.pair (.ptr I) (.pair (.ptr I) .unit)))) .unit)), md := [0, 0], mf := [], m := .unit, r := (.sl I), rf := (.o .i), f := fun x => zz40 big x.1 x.2.1 }
def A_zz40 : Cfg := mkCfg tab [(112, S_zz39)] [(6, [.drop, .as (.clo 112 0 (.pair (.ptr (.opt (.pair (.sl (.sl .bool)) (.pair (.sl (.sl I)) (.pair (.sl (.sl I)) .unit))))) (.pair (.ptr I) (.pair (.ptr I) .unit)))) .i, .drop, .drop, .drop, .as (.sl I) (.o .i), .drop, .drop, .drop, .as I .i, .as I .i]), (17, [.drop, .drop, .drop, .drop, .drop, .as (.sl I) (.o .i)])]
noncomputable def vqj (N n : Nat) (K : Ex → St → Z5) (so1 : (Y1 × Z1)) (list5 : Y4) (t9 t10 : Int) : Z5 := iter ((A_zz40).shape 6) (run (A_zz40) N (codeAt Try.f62 [1, 1, 0, 1, 0, 0])) n ([.u, .val (.clo 112 0 (.pair (.ptr (.opt (.pair (.sl (.sl .bool)) (.pair (.sl (.sl I)) (.pair (.sl (.sl I)) .unit))))) (.pair (.ptr I) (.pair (.ptr I) .unit)))) .i so1, .u, .u, .u, .val (.sl I) (.o .i) list5, .u, .u, .u, .val I .i t9, .val I .i t10] ++ List.replicate 11 .u) K
noncomputable abbrev vapm : Ex → St → Z5 := finish (A_zz40) S_zz40 Try.f62.results.toList
noncomputable abbrev vui (kX : St → Z5) : Y4 → Z5 := fun (list5 : Y4) => kX ([.u, .u, .u, .u, .u, .val (.sl I) (.o .i) list5] ++ List.replicate 16 .u)
noncomputable abbrev vxy (kX : St → Z5) (kO : Nat → St → Z5) : Ex → St → Z5 := exK vapm 0 ((A_zz40).shape 17) kX kO
theorem vbbs (N m : Nat) (kX : St → Z5) (kO : Nat → St → Z5) (so1 : (Y1 × Z1)) (list5 : Y4) (t9 t10 : Int) : vqj N (m + 1) (vxy kX kO) so1 list5 t9 t10 = vpf (vqj N m (vxy kX kO)) (vui kX) so1 list5 t9 t10 := by kernel_rfl
theorem vafq (N : Nat) (kX : St → Z5) (kO : Nat → St → Z5) : ∀ (n : Nat) (so1 : (Y1 × Z1)) (list5 : Y4) (t9 t10 : Int), vqj N n (vxy kX kO) so1 list5 t9 t10 = vme N (vui kX) n so1 list5 t9 t10
  | 0, _, _, _, _ => rfl
  | m + 1, so1, list5, t9, t10 => by
    have hrec : vqj N m (vxy kX kO) = (vme N (vui kX) m) := (funext fun so1 => (funext fun list5 => (funext fun t9 => (funext fun t10 => vafq N kX kO m so1 list5 t9 t10))))
    refine (vbbs N m kX kO so1 list5 t9 t10).trans ?_
    rw [hrec]
    rfl
noncomputable abbrev vaim (N : Nat) : Ex → St → Z5 := (blockK 0 (seqK ((A_zz40).shape 17) (gated ((A_zz40).shape 500008).isSome N (run (A_zz40) N (codeAt Try.f62 [1, 1, 1]))) vapm))
noncomputable abbrev vakx (N : Nat) : St → Z5 := fun st' => run (A_zz40) N (codeAt Try.f62 [1, 1, 1]) st' vapm
theorem vavd (N : Nat) (list5 : Y4) : vui (vakx N) list5 = vhy list5 := by kernel_rfl
theorem vbij (N : Nat) (so1 : (Y1 × Z1)) (list5 : Y4) (t9 t10 : Int) : vqj N N (vaim N) so1 list5 t9 t10 = vakd N so1 list5 t9 t10 :=
  have h : vui (vakx N) = (vhy) := (funext fun list5 => vavd N list5)
  ((vad (fun st => by kernel_rfl) (fun st => by kernel_rfl)).trans (vafq N (vakx N) (fun j st => (vaim N) (.exit j) st) N so1 list5 t9 t10)).trans (congrArg (fun k => vme N k N so1 list5 t9 t10) h)
theorem run0_zz40 (N : Nat) (x : (S_zz40).a.den) : runF (A_zz40) N Try.f62 S_zz40 x = (vase (vqj N N (vaim N)) x.1 x.2.1) := by kernel_rfl
theorem run_zz40 (N : Nat) (x : (S_zz40).a.den) : runF (A_zz40) N Try.f62 S_zz40 x = zz40 N x.1 x.2.1 := by
  refine (run0_zz40 N x).trans ?_
  rw [(funext fun so1 => (funext fun list5 => (funext fun t9 => (funext fun t10 => vbij N so1 list5 t9 t10))))]
  rfl
theorem fn_zz40 : FnOk Try.prog 62 := ⟨_, Try.func62, by kernel_rfl, by kernel_rfl⟩
theorem good_zz40 : Gx.Good Try.prog 62 S_zz40 := vaa Try.func62 (of_decide_eq_true (by kernel_rfl)) fun x r h => ⟨A_zz40, big, vac tabOk, vab (show SigsOk Try.prog [(112, S_zz39)] from ⟨⟨fn_zz39, good_zz39⟩, trivial⟩), (run_zz40 big x).trans h⟩
def vbhs (o_0 : Y5) (so_1 : (Y1 × Z1)) : Z0 :=
  (zz40 big o_0 so_1).bind fun rq1 =>
  some (decide ((rq1.1.length : Int) = (0 : Int)), (()))
def zz41 (o_0 : Y5) (so_1 : (Y1 × Z1)) : Z0 := vbhs o_0 so_1
def S_zz41 : Sig := { a := (.pair (.sl (.sl .bool)) (.pair (.clo 112 0 (.pair (.ptr (.opt (.pair (.sl (.sl .bool)) (.pair (.sl (.sl I)) (.pair (.sl (.sl I)) .unit))))) (.pair (.ptr I) (.pair (.ptr I) .unit)))) .unit)), md := [0, 0], mf := [], m := .unit, r := .bool, rf := .i, f := fun x => zz41 x.1 x.2.1 }
def A_zz41 : Cfg := mkCfg tab [(62, S_zz40)] []
theorem run_zz41 (N : Nat) (x : (S_zz41).a.den) : runF (A_zz41) N Try.f71 S_zz41 x = zz41 x.1 x.2.1 := by kernel_rfl
theorem fn_zz41 : FnOk Try.prog 71 := ⟨_, Try.func71, by kernel_rfl, by kernel_rfl⟩
theorem good_zz41 : Gx.Good Try.prog 71 S_zz41 := vaa Try.func71 (of_decide_eq_true (by kernel_rfl)) fun x r h => ⟨A_zz41, big, vac tabOk, vab (show SigsOk Try.prog [(62, S_zz40)] from ⟨⟨fn_zz40, good_zz40⟩, trivial⟩), (run_zz41 big x).trans h⟩
def vpj (rec : Y1 → Int → Y4 → Int → Int → Z0) (k : Z0) (l2 : Y1) (x3 : Int) (t9 : Y4) (t10 t11 : Int) : Z0 :=
  cond (decide (t11 < t10))
  ((atI t9 t11).bind fun _ =>
  (t9[t11.toNat]?).bind fun xq2 =>
  (l2).bind fun xq3 =>
  (zz41 xq3.1 (l2, x3, xq2, ())).bind fun rq4 =>
  cond rq4.1
  (some (true, (())))
  (rec l2 x3 t9 t10 (IntKind.i64.wrap (t11 + (1 : Int)))))
  (k)
def vjq : Z0 :=
  some (false, (()))
def vauj (L2 : Y1 → Int → Y4 → Int → Int → Z0) (l_0 : Y1) (x_1 : Int) : Z0 :=
  (zz38 l_0 x_1).bind fun rq1 =>
  L2 l_0 x_1 rq1.1 (rq1.1.length : Int) (0 : Int)
def vmg (N : Nat) (k : Z0) : Nat → Y1 → Int → Y4 → Int → Int → Z0
  | 0, _, _, _, _, _ => none
  | m + 1, l2, x3, t9, t10, t11 => vpj (vmg N k m) k l2 x3 t9 t10 t11
def vamo (N : Nat) (l2 : Y1) (x3 : Int) (t9 : Y4) (t10 t11 : Int) : Z0 := vmg N (vjq) N l2 x3 t9 t10 t11
def zz42 (N : Nat) (l_0 : Y1) (x_1 : Int) : Z0 := vauj (vamo N) l_0 x_1
def S_zz42 : Sig := { a := (.pair (.opt (.pair (.sl (.sl .bool)) (.pair (.sl (.sl I)) (.pair (.sl (.sl I)) .unit)))) (.pair I .unit)), md := [0, 0], mf := [], m := .unit, r := .bool, rf := .i, f := fun x => zz42 big x.1 x.2.1 }
def A_zz42 : Cfg := mkCfg tab [(73, S_zz38), (71, S_zz41)] [(4, [.drop, .drop, .as (.ptr (.opt (.pair (.sl (.sl .bool)) (.pair (.sl (.sl I)) (.pair (.sl (.sl I)) .unit))))) .i, .as (.ptr I) .i, .drop, .drop, .drop, .drop, .drop, .as (.sl I) (.o .i), .as I .i, .as I .i]), (9, [.drop, .drop, .as (.ptr (.opt (.pair (.sl (.sl .bool)) (.pair (.sl (.sl I)) (.pair (.sl (.sl I)) .unit))))) .i, .as (.ptr I) .i, .drop, .drop, .as (.ptr I) .i, .drop, .drop, .as (.sl I) (.o .i), .as I .i, .as I .i]), (15, [])]
noncomputable def vpz (N n : Nat) (K : Ex → St → Z0) (l2 : Y1) (x3 : Int) (t9 : Y4) (t10 t11 : Int) : Z0 := iter ((A_zz42).shape 4) (run (A_zz42) N (codeAt Try.f63 [1, 0, 1, 0, 0])) n ([.u, .u, .val (.ptr (.opt (.pair (.sl (.sl .bool)) (.pair (.sl (.sl I)) (.pair (.sl (.sl I)) .unit))))) .i l2, .val (.ptr I) .i x3, .u, .u, .u, .u, .u, .val (.sl I) (.o .i) t9, .val I .i t10, .val I .i t11] ++ List.replicate 10 .u) K
noncomputable abbrev vaus : Ex → St → Z0 := finish (A_zz42) S_zz42 Try.f63.results.toList
noncomputable abbrev vur (kX : St → Z0) : Z0 := kX ([] ++ List.replicate 22 .u)
noncomputable abbrev vyn (kX : St → Z0) (kO : Nat → St → Z0) : Ex → St → Z0 := exK vaus 0 ((A_zz42).shape 15) kX kO
theorem vbbw (N m : Nat) (kX : St → Z0) (kO : Nat → St → Z0) (l2 : Y1) (x3 : Int) (t9 : Y4) (t10 t11 : Int) : vpz N (m + 1) (vyn kX kO) l2 x3 t9 t10 t11 = vpj (vpz N m (vyn kX kO)) (vur kX) l2 x3 t9 t10 t11 := by kernel_rfl
theorem vagb (N : Nat) (kX : St → Z0) (kO : Nat → St → Z0) : ∀ (n : Nat) (l2 : Y1) (x3 : Int) (t9 : Y4) (t10 t11 : Int), vpz N n (vyn kX kO) l2 x3 t9 t10 t11 = vmg N (vur kX) n l2 x3 t9 t10 t11
  | 0, _, _, _, _, _ => rfl
  | m + 1, l2, x3, t9, t10, t11 => by
    have hrec : vpz N m (vyn kX kO) = (vmg N (vur kX) m) := (funext fun l2 => (funext fun x3 => (funext fun t9 => (funext fun t10 => (funext fun t11 => vagb N kX kO m l2 x3 t9 t10 t11)))))
    refine (vbbw N m kX kO l2 x3 t9 t10 t11).trans ?_
    rw [hrec]
    rfl
noncomputable abbrev vahu (N : Nat) : Ex → St → Z0 := (blockK 0 (seqK ((A_zz42).shape 15) (gated ((A_zz42).shape 500007).isSome N (run (A_zz42) N (codeAt Try.f63 [1, 1]))) vaus))
noncomputable abbrev vajm (N : Nat) : St → Z0 := fun st' => run (A_zz42) N (codeAt Try.f63 [1, 1]) st' vaus
theorem vavu (N : Nat) : vur (vajm N) = vjq := by kernel_rfl
theorem vbkj (N : Nat) (l2 : Y1) (x3 : Int) (t9 : Y4) (t10 t11 : Int) : vpz N N (vahu N) l2 x3 t9 t10 t11 = vamo N l2 x3 t9 t10 t11 :=
  have h : vur (vajm N) = (vjq) := vavu N
  ((vad (fun st => by kernel_rfl) (fun st => by kernel_rfl)).trans (vagb N (vajm N) (fun j st => (vahu N) (.exit j) st) N l2 x3 t9 t10 t11)).trans (congrArg (fun k => vmg N k N l2 x3 t9 t10 t11) h)
theorem run0_zz42 (N : Nat) (x : (S_zz42).a.den) : runF (A_zz42) N Try.f63 S_zz42 x = (vauj (vpz N N (vahu N)) x.1 x.2.1) := by kernel_rfl
theorem run_zz42 (N : Nat) (x : (S_zz42).a.den) : runF (A_zz42) N Try.f63 S_zz42 x = zz42 N x.1 x.2.1 := by
  refine (run0_zz42 N x).trans ?_
  rw [(funext fun l2 => (funext fun x3 => (funext fun t9 => (funext fun t10 => (funext fun t11 => vbkj N l2 x3 t9 t10 t11)))))]
  rfl
theorem fn_zz42 : FnOk Try.prog 63 := ⟨_, Try.func63, by kernel_rfl, by kernel_rfl⟩
theorem good_zz42 : Gx.Good Try.prog 63 S_zz42 := vaa Try.func63 (of_decide_eq_true (by kernel_rfl)) fun x r h => ⟨A_zz42, big, vac tabOk, vab (show SigsOk Try.prog [(73, S_zz38), (71, S_zz41)] from ⟨⟨fn_zz38, good_zz38⟩, ⟨fn_zz41, good_zz41⟩, trivial⟩), (run_zz42 big x).trans h⟩
def vnd (rec : Z16 → Y4 → Int → Int → Z5) (k : Y4 → Z5) (so1 : Z16) (list5 : Y4) (t9 t10 : Int) : Z5 :=
  cond (decide (t10 < t9))
  ((zz42 big so1.1 t10).bind fun rq1 =>
  cond rq1.1
  ((appI list5 [t10]).bind fun xq2 =>
  rec so1 xq2 t9 (IntKind.i64.wrap (t10 + (1 : Int))))
  (rec so1 list5 t9 (IntKind.i64.wrap (t10 + (1 : Int)))))
  (k list5)
def vgm (list5 : Y4) : Z5 :=
  some (list5, (()))
def vatf (L3 : Z16 → Y4 → Int → Int → Z5) (o_0 : Y5) (so_1 : Z16) : Z5 :=
  L3 so_1 [] (o_0.length : Int) (0 : Int)
def vou (N : Nat) (k : Y4 → Z5) : Nat → Z16 → Y4 → Int → Int → Z5
  | 0, _, _, _, _ => none
  | m + 1, so1, list5, t9, t10 => vnd (vou N k m) k so1 list5 t9 t10
def vamd (N : Nat) (so1 : Z16) (list5 : Y4) (t9 t10 : Int) : Z5 := vou N (vgm) N so1 list5 t9 t10
def zz43 (N : Nat) (o_0 : Y5) (so_1 : Z16) : Z5 := vatf (vamd N) o_0 so_1
def S_zz43 : Sig := { a := (.pair (.sl (.sl .bool)) (.pair (.clo 63 1 (.pair (.opt (.pair (.sl (.sl .bool)) (.pair (.sl (.sl I)) (.pair (.sl (.sl I)) .unit)))) .unit)) .unit)), md := [0, 0], mf := [], m := .unit, r := (.sl I), rf := (.o .i), f := fun x => zz43 big x.1 x.2.1 }
def A_zz43 : Cfg := mkCfg tab [(63, S_zz42)] [(6, [.drop, .as (.clo 63 1 (.pair (.opt (.pair (.sl (.sl .bool)) (.pair (.sl (.sl I)) (.pair (.sl (.sl I)) .unit)))) .unit)) .i, .drop, .drop, .drop, .as (.sl I) (.o .i), .drop, .drop, .drop, .as I .i, .as I .i]), (17, [.drop, .drop, .drop, .drop, .drop, .as (.sl I) (.o .i)])]
noncomputable def vor (N n : Nat) (K : Ex → St → Z5) (so1 : Z16) (list5 : Y4) (t9 t10 : Int) : Z5 := iter ((A_zz43).shape 6) (run (A_zz43) N (codeAt Try.f62 [1, 1, 0, 1, 0, 0])) n ([.u, .val (.clo 63 1 (.pair (.opt (.pair (.sl (.sl .bool)) (.pair (.sl (.sl I)) (.pair (.sl (.sl I)) .unit)))) .unit)) .i so1, .u, .u, .u, .val (.sl I) (.o .i) list5, .u, .u, .u, .val I .i t9, .val I .i t10] ++ List.replicate 11 .u) K
noncomputable abbrev varm : Ex → St → Z5 := finish (A_zz43) S_zz43 Try.f62.results.toList
noncomputable abbrev vvd (kX : St → Z5) : Y4 → Z5 := fun (list5 : Y4) => kX ([.u, .u, .u, .u, .u, .val (.sl I) (.o .i) list5] ++ List.replicate 16 .u)
noncomputable abbrev vzb (kX : St → Z5) (kO : Nat → St → Z5) : Ex → St → Z5 := exK varm 0 ((A_zz43).shape 17) kX kO
theorem vbdd (N m : Nat) (kX : St → Z5) (kO : Nat → St → Z5) (so1 : Z16) (list5 : Y4) (t9 t10 : Int) : vor N (m + 1) (vzb kX kO) so1 list5 t9 t10 = vnd (vor N m (vzb kX kO)) (vvd kX) so1 list5 t9 t10 := by kernel_rfl
theorem vacx (N : Nat) (kX : St → Z5) (kO : Nat → St → Z5) : ∀ (n : Nat) (so1 : Z16) (list5 : Y4) (t9 t10 : Int), vor N n (vzb kX kO) so1 list5 t9 t10 = vou N (vvd kX) n so1 list5 t9 t10
  | 0, _, _, _, _ => rfl
  | m + 1, so1, list5, t9, t10 => by
    have hrec : vor N m (vzb kX kO) = (vou N (vvd kX) m) := (funext fun so1 => (funext fun list5 => (funext fun t9 => (funext fun t10 => vacx N kX kO m so1 list5 t9 t10))))
    refine (vbdd N m kX kO so1 list5 t9 t10).trans ?_
    rw [hrec]
    rfl
noncomputable abbrev vakr (N : Nat) : Ex → St → Z5 := (blockK 0 (seqK ((A_zz43).shape 17) (gated ((A_zz43).shape 500008).isSome N (run (A_zz43) N (codeAt Try.f62 [1, 1, 1]))) varm))
noncomputable abbrev vajp (N : Nat) : St → Z5 := fun st' => run (A_zz43) N (codeAt Try.f62 [1, 1, 1]) st' varm
theorem vayj (N : Nat) (list5 : Y4) : vvd (vajp N) list5 = vgm list5 := by kernel_rfl
theorem vbjs (N : Nat) (so1 : Z16) (list5 : Y4) (t9 t10 : Int) : vor N N (vakr N) so1 list5 t9 t10 = vamd N so1 list5 t9 t10 :=
  have h : vvd (vajp N) = (vgm) := (funext fun list5 => vayj N list5)
  ((vad (fun st => by kernel_rfl) (fun st => by kernel_rfl)).trans (vacx N (vajp N) (fun j st => (vakr N) (.exit j) st) N so1 list5 t9 t10)).trans (congrArg (fun k => vou N k N so1 list5 t9 t10) h)
theorem run0_zz43 (N : Nat) (x : (S_zz43).a.den) : runF (A_zz43) N Try.f62 S_zz43 x = (vatf (vor N N (vakr N)) x.1 x.2.1) := by kernel_rfl
theorem run_zz43 (N : Nat) (x : (S_zz43).a.den) : runF (A_zz43) N Try.f62 S_zz43 x = zz43 N x.1 x.2.1 := by
  refine (run0_zz43 N x).trans ?_
  rw [(funext fun so1 => (funext fun list5 => (funext fun t9 => (funext fun t10 => vbjs N so1 list5 t9 t10))))]
  rfl
theorem fn_zz43 : FnOk Try.prog 62 := ⟨_, Try.func62, by kernel_rfl, by kernel_rfl⟩
theorem good_zz43 : Gx.Good Try.prog 62 S_zz43 := vaa Try.func62 (of_decide_eq_true (by kernel_rfl)) fun x r h => ⟨A_zz43, big, vac tabOk, vab (show SigsOk Try.prog [(63, S_zz42)] from ⟨⟨fn_zz42, good_zz42⟩, trivial⟩), (run_zz43 big x).trans h⟩
def vaqk (l_0 : Y1) : Z5 :=
  (l_0).bind fun xq1 =>
  (zz43 big xq1.1 (l_0, ())).bind fun rq2 =>
  some (rq2.1, (()))
def zz44 (l_0 : Y1) : Z5 := vaqk l_0
def S_zz44 : Sig := { a := (.pair (.opt (.pair (.sl (.sl .bool)) (.pair (.sl (.sl I)) (.pair (.sl (.sl I)) .unit)))) .unit), md := [0], mf := [], m := .unit, r := (.sl I), rf := (.o .i), f := fun x => zz44 x.1 }
def A_zz44 : Cfg := mkCfg tab [(62, S_zz43)] []
theorem run_zz44 (N : Nat) (x : (S_zz44).a.den) : runF (A_zz44) N Try.f61 S_zz44 x = zz44 x.1 := by kernel_rfl
theorem fn_zz44 : FnOk Try.prog 61 := ⟨_, Try.func61, by kernel_rfl, by kernel_rfl⟩
theorem good_zz44 : Gx.Good Try.prog 61 S_zz44 := vaa Try.func61 (of_decide_eq_true (by kernel_rfl)) fun x r h => ⟨A_zz44, big, vac tabOk, vab (show SigsOk Try.prog [(62, S_zz43)] from ⟨⟨fn_zz43, good_zz43⟩, trivial⟩), (run_zz44 big x).trans h⟩
def vafp (p_0 : Y2) (list_1 : Unit) : Z7 :=
  (zz32 p_0).bind fun rq1 =>
  cond (!rq1.1.2.1)
  (some (([], false, ()), (())))
  ((zz44 rq1.1.1).bind fun rq2 =>
  some ((rq2.1, true, ()), (())))
def zz45 (p_0 : Y2) (list_1 : Unit) : Z7 := vafp p_0 list_1
def S_zz45 : Sig := { a := (.pair (.pair (.sl (.sl I)) .unit) (.pair (.clo 61 0 .unit) .unit)), md := [0, 0], mf := [], m := .unit, r := (.tup (.pair (.sl I) (.pair .bool .unit))), rf := (.p (.o .i) .i), f := fun x => zz45 x.1 x.2.1 }
def A_zz45 : Cfg := mkCfg tab [(51, S_zz32), (61, S_zz44)] []
theorem run_zz45 (N : Nat) (x : (S_zz45).a.den) : runF (A_zz45) N Try.f60 S_zz45 x = zz45 x.1 x.2.1 := by kernel_rfl
theorem fn_zz45 : FnOk Try.prog 60 := ⟨_, Try.func60, by kernel_rfl, by kernel_rfl⟩
theorem good_zz45 : Gx.Good Try.prog 60 S_zz45 := vaa Try.func60 (of_decide_eq_true (by kernel_rfl)) fun x r h => ⟨A_zz45, big, vac tabOk, vab (show SigsOk Try.prog [(51, S_zz32), (61, S_zz44)] from ⟨⟨fn_zz32, good_zz32⟩, ⟨fn_zz44, good_zz44⟩, trivial⟩), (run_zz45 big x).trans h⟩
def vaeu (p_0 : Y2) : Z7 :=
  (zz45 p_0 ()).bind fun rq1 =>
  some ((rq1.1.1, (((), rq1.1.2).2).1, ()), (()))
def zz46 (p_0 : Y2) : Z7 := vaeu p_0
def S_zz46 : Sig := { a := (.pair (.pair (.sl (.sl I)) .unit) .unit), md := [0], mf := [], m := .unit, r := (.tup (.pair (.sl I) (.pair .bool .unit))), rf := (.p (.o .i) .i), f := fun x => zz46 x.1 }
def A_zz46 : Cfg := mkCfg tab [(60, S_zz45)] []
theorem run_zz46 (N : Nat) (x : (S_zz46).a.den) : runF (A_zz46) N Try.f20 S_zz46 x = zz46 x.1 := by kernel_rfl
theorem fn_zz46 : FnOk Try.prog 20 := ⟨_, Try.func20, by kernel_rfl, by kernel_rfl⟩
theorem good_zz46 : Gx.Good Try.prog 20 S_zz46 := vaa Try.func20 (of_decide_eq_true (by kernel_rfl)) fun x r h => ⟨A_zz46, big, vac tabOk, vab (show SigsOk Try.prog [(60, S_zz45)] from ⟨⟨fn_zz45, good_zz45⟩, trivial⟩), (run_zz46 big x).trans h⟩
def vahj (rec : Y4 → Int → Int → Int → Z0) (k : Z0) (l0 : Y4) (lo1 hi2 i7 : Int) : Z0 :=
  cond (decide (i7 < (l0.length : Int)))
  ((atI l0 i7).bind fun xq1 =>
  (zz6 xq1 lo1 hi2).bind fun rq2 =>
  cond (!rq2.1)
  (some (false, (())))
  (cond (decide ((0 : Int) < i7))
  ((atI l0 (IntKind.i64.wrap (i7 - (1 : Int)))).bind fun xq3 =>
  (atI l0 i7).bind fun xq4 =>
  cond (decide (xq4 ≤ xq3))
  (some (false, (())))
  (rec l0 lo1 hi2 (IntKind.i64.wrap (i7 + (1 : Int)))))
  (rec l0 lo1 hi2 (IntKind.i64.wrap (i7 + (1 : Int))))))
  (k)
def vpt : Z0 :=
  some (true, (()))
def vapa (L2 : Y4 → Int → Int → Int → Z0) (l_0 : Y4) (lo_1 hi_2 : Int) : Z0 :=
  L2 l_0 lo_1 hi_2 (0 : Int)
def vek (N : Nat) (k : Z0) : Nat → Y4 → Int → Int → Int → Z0
  | 0, _, _, _, _ => none
  | m + 1, l0, lo1, hi2, i7 => vahj (vek N k m) k l0 lo1 hi2 i7
def vako (N : Nat) (l0 : Y4) (lo1 hi2 i7 : Int) : Z0 := vek N (vpt) N l0 lo1 hi2 i7
def zz47 (N : Nat) (l_0 : Y4) (lo_1 hi_2 : Int) : Z0 := vapa (vako N) l_0 lo_1 hi_2
def S_zz47 : Sig := { a := (.pair (.sl I) (.pair I (.pair I .unit))), md := [0, 0, 0], mf := [], m := .unit, r := .bool, rf := .i, f := fun x => zz47 big x.1 x.2.1 x.2.2.1 }
def A_zz47 : Cfg := mkCfg tab [(107, S_zz6)] [(4, [.as (.sl I) .i, .as I .i, .as I .i, .drop, .drop, .drop, .drop, .as I .i]), (13, [])]
noncomputable def vnf (N n : Nat) (K : Ex → St → Z0) (l0 : Y4) (lo1 hi2 i7 : Int) : Z0 := iter ((A_zz47).shape 4) (run (A_zz47) N (codeAt Try.f125 [1, 0, 1, 0, 0])) n ([.val (.sl I) .i l0, .val I .i lo1, .val I .i hi2, .u, .u, .u, .u, .val I .i i7] ++ List.replicate 30 .u) K
noncomputable abbrev vaut : Ex → St → Z0 := finish (A_zz47) S_zz47 Try.f125.results.toList
noncomputable abbrev vsx (kX : St → Z0) : Z0 := kX ([] ++ List.replicate 38 .u)
noncomputable abbrev vzq (kX : St → Z0) (kO : Nat → St → Z0) : Ex → St → Z0 := exK vaut 0 ((A_zz47).shape 13) kX kO
theorem vbcw (N m : Nat) (kX : St → Z0) (kO : Nat → St → Z0) (l0 : Y4) (lo1 hi2 i7 : Int) : vnf N (m + 1) (vzq kX kO) l0 lo1 hi2 i7 = vahj (vnf N m (vzq kX kO)) (vsx kX) l0 lo1 hi2 i7 := by kernel_rfl
theorem vaer (N : Nat) (kX : St → Z0) (kO : Nat → St → Z0) : ∀ (n : Nat) (l0 : Y4) (lo1 hi2 i7 : Int), vnf N n (vzq kX kO) l0 lo1 hi2 i7 = vek N (vsx kX) n l0 lo1 hi2 i7
  | 0, _, _, _, _ => rfl
  | m + 1, l0, lo1, hi2, i7 => by
    have hrec : vnf N m (vzq kX kO) = (vek N (vsx kX) m) := (funext fun l0 => (funext fun lo1 => (funext fun hi2 => (funext fun i7 => vaer N kX kO m l0 lo1 hi2 i7))))
    refine (vbcw N m kX kO l0 lo1 hi2 i7).trans ?_
    rw [hrec]
    rfl
noncomputable abbrev vama (N : Nat) : Ex → St → Z0 := (blockK 0 (seqK ((A_zz47).shape 13) (gated ((A_zz47).shape 500006).isSome N (run (A_zz47) N (codeAt Try.f125 [1, 1]))) vaut))
noncomputable abbrev vaia (N : Nat) : St → Z0 := fun st' => run (A_zz47) N (codeAt Try.f125 [1, 1]) st' vaut
theorem vawu (N : Nat) : vsx (vaia N) = vpt := by kernel_rfl
theorem vbla (N : Nat) (l0 : Y4) (lo1 hi2 i7 : Int) : vnf N N (vama N) l0 lo1 hi2 i7 = vako N l0 lo1 hi2 i7 :=
  have h : vsx (vaia N) = (vpt) := vawu N
  ((vad (fun st => by kernel_rfl) (fun st => by kernel_rfl)).trans (vaer N (vaia N) (fun j st => (vama N) (.exit j) st) N l0 lo1 hi2 i7)).trans (congrArg (fun k => vek N k N l0 lo1 hi2 i7) h)
theorem run0_zz47 (N : Nat) (x : (S_zz47).a.den) : runF (A_zz47) N Try.f125 S_zz47 x = (vapa (vnf N N (vama N)) x.1 x.2.1 x.2.2.1) := by kernel_rfl
theorem run_zz47 (N : Nat) (x : (S_zz47).a.den) : runF (A_zz47) N Try.f125 S_zz47 x = zz47 N x.1 x.2.1 x.2.2.1 := by
  refine (run0_zz47 N x).trans ?_
  rw [(funext fun l0 => (funext fun lo1 => (funext fun hi2 => (funext fun i7 => vbla N l0 lo1 hi2 i7))))]
  rfl
theorem fn_zz47 : FnOk Try.prog 125 := ⟨_, Try.func125, by kernel_rfl, by kernel_rfl⟩
theorem good_zz47 : Gx.Good Try.prog 125 S_zz47 := vaa Try.func125 (of_decide_eq_true (by kernel_rfl)) fun x r h => ⟨A_zz47, big, vac tabOk, vab (show SigsOk Try.prog [(107, S_zz6)] from ⟨⟨fn_zz6, good_zz6⟩, trivial⟩), (run_zz47 big x).trans h⟩
def vln (rec : Y4 → Y4 → Int → Z0) (k : Z0) (x0 y1 : Y4) (i5 : Int) : Z0 :=
  cond (decide (i5 < (x0.length : Int)))
  ((atI x0 i5).bind fun xq1 =>
  (zz14 big y1 xq1).bind fun rq2 =>
  cond (!rq2.1)
  (some (false, (())))
  (rec x0 y1 (IntKind.i64.wrap (i5 + (1 : Int)))))
  (k)
def vgt : Z0 :=
  some (true, (()))
def vavc (L2 : Y4 → Y4 → Int → Z0) (x_0 y_1 : Y4) : Z0 :=
  L2 x_0 y_1 (0 : Int)
def vlq (N : Nat) (k : Z0) : Nat → Y4 → Y4 → Int → Z0
  | 0, _, _, _ => none
  | m + 1, x0, y1, i5 => vln (vlq N k m) k x0 y1 i5
def vagq (N : Nat) (x0 y1 : Y4) (i5 : Int) : Z0 := vlq N (vgt) N x0 y1 i5
def zz48 (N : Nat) (x_0 y_1 : Y4) : Z0 := vavc (vagq N) x_0 y_1
def S_zz48 : Sig := { a := (.pair (.sl I) (.pair (.sl I) .unit)), md := [0, 0], mf := [], m := .unit, r := .bool, rf := .i, f := fun x => zz48 big x.1 x.2.1 }
def A_zz48 : Cfg := mkCfg tab [(69, S_zz14)] [(4, [.as (.sl I) .i, .as (.sl I) .i, .drop, .drop, .drop, .as I .i]), (13, [])]
noncomputable def vlr (N n : Nat) (K : Ex → St → Z0) (x0 y1 : Y4) (i5 : Int) : Z0 := iter ((A_zz48).shape 4) (run (A_zz48) N (codeAt Try.f126 [1, 0, 1, 0, 0])) n ([.val (.sl I) .i x0, .val (.sl I) .i y1, .u, .u, .u, .val I .i i5] ++ List.replicate 13 .u) K
noncomputable abbrev vasz : Ex → St → Z0 := finish (A_zz48) S_zz48 Try.f126.results.toList
noncomputable abbrev vsl (kX : St → Z0) : Z0 := kX ([] ++ List.replicate 19 .u)
noncomputable abbrev vzw (kX : St → Z0) (kO : Nat → St → Z0) : Ex → St → Z0 := exK vasz 0 ((A_zz48).shape 13) kX kO
theorem vbar (N m : Nat) (kX : St → Z0) (kO : Nat → St → Z0) (x0 y1 : Y4) (i5 : Int) : vlr N (m + 1) (vzw kX kO) x0 y1 i5 = vln (vlr N m (vzw kX kO)) (vsl kX) x0 y1 i5 := by kernel_rfl
theorem vafi (N : Nat) (kX : St → Z0) (kO : Nat → St → Z0) : ∀ (n : Nat) (x0 y1 : Y4) (i5 : Int), vlr N n (vzw kX kO) x0 y1 i5 = vlq N (vsl kX) n x0 y1 i5
  | 0, _, _, _ => rfl
  | m + 1, x0, y1, i5 => by
    have hrec : vlr N m (vzw kX kO) = (vlq N (vsl kX) m) := (funext fun x0 => (funext fun y1 => (funext fun i5 => vafi N kX kO m x0 y1 i5)))
    refine (vbar N m kX kO x0 y1 i5).trans ?_
    rw [hrec]
    rfl
noncomputable abbrev vakz (N : Nat) : Ex → St → Z0 := (blockK 0 (seqK ((A_zz48).shape 13) (gated ((A_zz48).shape 500006).isSome N (run (A_zz48) N (codeAt Try.f126 [1, 1]))) vasz))
noncomputable abbrev vajz (N : Nat) : St → Z0 := fun st' => run (A_zz48) N (codeAt Try.f126 [1, 1]) st' vasz
theorem vavm (N : Nat) : vsl (vajz N) = vgt := by kernel_rfl
theorem vbhz (N : Nat) (x0 y1 : Y4) (i5 : Int) : vlr N N (vakz N) x0 y1 i5 = vagq N x0 y1 i5 :=
  have h : vsl (vajz N) = (vgt) := vavm N
  ((vad (fun st => by kernel_rfl) (fun st => by kernel_rfl)).trans (vafi N (vajz N) (fun j st => (vakz N) (.exit j) st) N x0 y1 i5)).trans (congrArg (fun k => vlq N k N x0 y1 i5) h)
theorem run0_zz48 (N : Nat) (x : (S_zz48).a.den) : runF (A_zz48) N Try.f126 S_zz48 x = (vavc (vlr N N (vakz N)) x.1 x.2.1) := by kernel_rfl
theorem run_zz48 (N : Nat) (x : (S_zz48).a.den) : runF (A_zz48) N Try.f126 S_zz48 x = zz48 N x.1 x.2.1 := by
  refine (run0_zz48 N x).trans ?_
  rw [(funext fun x0 => (funext fun y1 => (funext fun i5 => vbhz N x0 y1 i5)))]
  rfl
theorem fn_zz48 : FnOk Try.prog 126 := ⟨_, Try.func126, by kernel_rfl, by kernel_rfl⟩
theorem good_zz48 : Gx.Good Try.prog 126 S_zz48 := vaa Try.func126 (of_decide_eq_true (by kernel_rfl)) fun x r h => ⟨A_zz48, big, vac tabOk, vab (show SigsOk Try.prog [(69, S_zz14)] from ⟨⟨fn_zz14, good_zz14⟩, trivial⟩), (run_zz48 big x).trans h⟩
def vie (rec : Y2 → Int → Int → Int → Z0) (k : Y2 → Int → Int → Z0) (p1 : Y2) (n3 x5 i6 : Int) : Z0 :=
  (atI p1.1 x5).bind fun xq5 =>
  cond (decide (i6 < (xq5.length : Int)))
  ((atI p1.1 x5).bind fun xq6 =>
  (atI xq6 i6).bind fun xq7 =>
  cond (decide (xq7 ≠ x5))
  ((atI p1.1 xq7).bind fun xq8 =>
  (zz14 big xq8 x5).bind fun rq9 =>
  cond rq9.1
  (some (false, (())))
  ((atI p1.1 xq7).bind fun xq10 =>
  (atI p1.1 x5).bind fun xq11 =>
  (zz48 big xq10 xq11).bind fun rq12 =>
  cond (!rq12.1)
  (some (false, (())))
  (rec p1 n3 x5 (IntKind.i64.wrap (i6 + (1 : Int))))))
  ((atI p1.1 xq7).bind fun xq13 =>
  (atI p1.1 x5).bind fun xq14 =>
  (zz48 big xq13 xq14).bind fun rq15 =>
  cond (!rq15.1)
  (some (false, (())))
  (rec p1 n3 x5 (IntKind.i64.wrap (i6 + (1 : Int))))))
  (k p1 n3 x5)
def vdt (rec : Y2 → Int → Int → Z0) (p1 : Y2) (n3 x5 : Int) : Z0 :=
  rec p1 n3 (IntKind.i64.wrap (x5 + (1 : Int)))
def viv (L13 : Y2 → Int → Int → Int → Z0) (k : Z0) (p1 : Y2) (n3 x5 : Int) : Z0 :=
  cond (decide (x5 < n3))
  (L13 p1 n3 x5 (0 : Int))
  (k)
def vbz : Z0 :=
  some (true, (()))
def vol (rec : Y2 → Int → Int → Z0) (k : Y2 → Int → Z0) (p1 : Y2) (n3 x4 : Int) : Z0 :=
  cond (decide (x4 < n3))
  ((atI p1.1 x4).bind fun xq1 =>
  (zz47 big xq1 (0 : Int) (IntKind.i64.wrap (n3 - (1 : Int)))).bind fun rq2 =>
  cond (!rq2.1)
  (some (false, (())))
  ((atI p1.1 x4).bind fun xq3 =>
  (zz14 big xq3 x4).bind fun rq4 =>
  cond (!rq4.1)
  (some (false, (())))
  (rec p1 n3 (IntKind.i64.wrap (x4 + (1 : Int))))))
  (k p1 n3)
def vkh (L10 : Y2 → Int → Int → Z0) (p1 : Y2) (n3 : Int) : Z0 :=
  L10 p1 n3 (0 : Int)
def vaqn (L5 : Y2 → Int → Int → Z0) (p_0 : Y2) : Z0 :=
  cond (decide ((10 : Int) < (p_0.1.length : Int)))
  (some (false, (())))
  (L5 p_0 (p_0.1.length : Int) (0 : Int))
def vfz (N : Nat) (k : Y2 → Int → Int → Z0) : Nat → Y2 → Int → Int → Int → Z0
  | 0, _, _, _, _ => none
  | m + 1, p1, n3, x5, i6 => vie (vfz N k m) k p1 n3 x5 i6
def vqz (N : Nat) (rec : Y2 → Int → Int → Z0) (k : Z0) (p1 : Y2) (n3 x5 i6 : Int) : Z0 := vfz N (vdt rec) N p1 n3 x5 i6
def vlx (N : Nat) (k : Y2 → Int → Z0) : Nat → Y2 → Int → Int → Z0
  | 0, _, _, _ => none
  | m + 1, p1, n3, x4 => vol (vlx N k m) k p1 n3 x4
def vef (N : Nat) (k : Z0) : Nat → Y2 → Int → Int → Z0
  | 0, _, _, _ => none
  | m + 1, p1, n3, x5 => viv (vqz N (vef N k m) k) k p1 n3 x5
def ved (N : Nat) (p1 : Y2) (n3 x5 : Int) : Z0 := vef N (vbz) N p1 n3 x5
def vaix (N : Nat) (p1 : Y2) (n3 x4 : Int) : Z0 := vlx N (vkh (ved N)) N p1 n3 x4
def zz49 (N : Nat) (p_0 : Y2) : Z0 := vaqn (vaix N) p_0
def S_zz49 : Sig := { a := (.pair (.pair (.sl (.sl I)) .unit) .unit), md := [0], mf := [], m := .unit, r := .bool, rf := .i, f := fun x => zz49 big x.1 }
def A_zz49 : Cfg := mkCfg tab [(125, S_zz47), (69, S_zz14), (126, S_zz48)] [(10, [.drop, .as y1 (.o .i), .drop, .as I .i, .as I .i]), (19, [.drop, .as y1 (.o .i), .drop, .as I .i]), (20, [.drop, .as y1 (.o .i), .drop, .as I .i, .drop, .as I .i]), (26, [.drop, .as y1 (.o .i), .drop, .as I .i, .drop, .as I .i, .as I .i]), (37, []), (23, [.drop, .as y1 (.o .i), .drop, .as I .i, .drop, .as I .i])]
noncomputable def vlt (N n : Nat) (K : Ex → St → Z0) (p1 : Y2) (n3 x4 : Int) : Z0 := iter ((A_zz49).shape 10) (run (A_zz49) N (codeAt Try.f104 [1, 1, 1, 0, 1, 0, 0])) n ([.u, .val y1 (.o .i) p1, .u, .val I .i n3, .val I .i x4] ++ List.replicate 81 .u) K
noncomputable def vdv (N n : Nat) (K : Ex → St → Z0) (p1 : Y2) (n3 x5 : Int) : Z0 := iter ((A_zz49).shape 20) (run (A_zz49) N (codeAt Try.f104 [1, 1, 1, 1, 0, 1, 0, 0])) n ([.u, .val y1 (.o .i) p1, .u, .val I .i n3, .u, .val I .i x5] ++ List.replicate 80 .u) K
noncomputable def vfk (N n : Nat) (K : Ex → St → Z0) (p1 : Y2) (n3 x5 i6 : Int) : Z0 := iter ((A_zz49).shape 26) (run (A_zz49) N (codeAt Try.f104 [1, 1, 1, 1, 0, 1, 0, 0, 1, 0, 0, 1, 0, 0])) n ([.u, .val y1 (.o .i) p1, .u, .val I .i n3, .u, .val I .i x5, .val I .i i6] ++ List.replicate 79 .u) K
noncomputable abbrev vqw : Ex → St → Z0 := finish (A_zz49) S_zz49 Try.f104.results.toList
noncomputable abbrev vut (kX : St → Z0) : Y2 → Int → Z0 := fun (p1 : Y2) (n3 : Int) => kX ([.u, .val y1 (.o .i) p1, .u, .val I .i n3] ++ List.replicate 82 .u)
noncomputable abbrev vzj (kX : St → Z0) (kO : Nat → St → Z0) : Ex → St → Z0 := exK vqw 0 ((A_zz49).shape 19) kX kO
noncomputable abbrev vec (kX : St → Z0) : Z0 := kX ([] ++ List.replicate 86 .u)
noncomputable abbrev veb (kX : St → Z0) (kO : Nat → St → Z0) : Ex → St → Z0 := exK vqw 2 ((A_zz49).shape 37) kX kO
noncomputable abbrev vrj (kX : St → Z0) : Y2 → Int → Int → Z0 := fun (p1 : Y2) (n3 x5 : Int) => kX ([.u, .val y1 (.o .i) p1, .u, .val I .i n3, .u, .val I .i x5] ++ List.replicate 80 .u)
noncomputable abbrev vwj (kX : St → Z0) (kO : Nat → St → Z0) : Ex → St → Z0 := exK vqw 4 ((A_zz49).shape 23) kX kO
theorem vbdh (N m : Nat) (kX : St → Z0) (kO : Nat → St → Z0) (p1 : Y2) (n3 x4 : Int) : vlt N (m + 1) (vzj kX kO) p1 n3 x4 = vol (vlt N m (vzj kX kO)) (vut kX) p1 n3 x4 := by kernel_rfl
theorem vade (N : Nat) (kX : St → Z0) (kO : Nat → St → Z0) : ∀ (n : Nat) (p1 : Y2) (n3 x4 : Int), vlt N n (vzj kX kO) p1 n3 x4 = vlx N (vut kX) n p1 n3 x4
  | 0, _, _, _ => rfl
  | m + 1, p1, n3, x4 => by
    have hrec : vlt N m (vzj kX kO) = (vlx N (vut kX) m) := (funext fun p1 => (funext fun n3 => (funext fun x4 => vade N kX kO m p1 n3 x4)))
    refine (vbdh N m kX kO p1 n3 x4).trans ?_
    rw [hrec]
    rfl
noncomputable abbrev vamf (N : Nat) : Ex → St → Z0 := (blockK 0 (seqK ((A_zz49).shape 19) (gated ((A_zz49).shape 500009).isSome N (run (A_zz49) N (codeAt Try.f104 [1, 1, 1, 1]))) vqw))
theorem vavx (N m : Nat) (kX : St → Z0) (kO : Nat → St → Z0) (p1 : Y2) (n3 x5 i6 : Int) : vfk N (m + 1) (vwj kX kO) p1 n3 x5 i6 = vie (vfk N m (vwj kX kO)) (vrj kX) p1 n3 x5 i6 := by kernel_rfl
theorem vaak (N : Nat) (kX : St → Z0) (kO : Nat → St → Z0) : ∀ (n : Nat) (p1 : Y2) (n3 x5 i6 : Int), vfk N n (vwj kX kO) p1 n3 x5 i6 = vfz N (vrj kX) n p1 n3 x5 i6
  | 0, _, _, _, _ => rfl
  | m + 1, p1, n3, x5, i6 => by
    have hrec : vfk N m (vwj kX kO) = (vfz N (vrj kX) m) := (funext fun p1 => (funext fun n3 => (funext fun x5 => (funext fun i6 => vaak N kX kO m p1 n3 x5 i6))))
    refine (vavx N m kX kO p1 n3 x5 i6).trans ?_
    rw [hrec]
    rfl
noncomputable abbrev vabs (N m : Nat) (kX : St → Z0) (kO : Nat → St → Z0) : Ex → St → Z0 := (blockK 4 (blockK 3 (seqK ((A_zz49).shape 23) (gated ((A_zz49).shape 500011).isSome N (run (A_zz49) N (codeAt Try.f104 [1, 1, 1, 1, 0, 1, 0, 0, 1, 1]))) (iterK ((A_zz49).shape 20) (run (A_zz49) N (codeAt Try.f104 [1, 1, 1, 1, 0, 1, 0, 0])) m (veb kX kO)))))
noncomputable abbrev vabv (N m : Nat) (kX : St → Z0) (kO : Nat → St → Z0) : St → Z0 := fun st' => run (A_zz49) N (codeAt Try.f104 [1, 1, 1, 1, 0, 1, 0, 0, 1, 1]) st' (iterK ((A_zz49).shape 20) (run (A_zz49) N (codeAt Try.f104 [1, 1, 1, 1, 0, 1, 0, 0])) m (veb kX kO))
theorem vaps (N m : Nat) (kX : St → Z0) (kO : Nat → St → Z0) (p1 : Y2) (n3 x5 : Int) : vrj (vabv N m kX kO) p1 n3 x5 = vdt (vdv N m (veb kX kO)) p1 n3 x5 := by kernel_rfl
theorem vbhr (N m : Nat) (kX : St → Z0) (kO : Nat → St → Z0) (recF : Y2 → Int → Int → Z0) (hrec : vdv N m (veb kX kO) = recF) (p1 : Y2) (n3 x5 i6 : Int) : vfk N N (vabs N m kX kO) p1 n3 x5 i6 = vqz N recF (vec kX) p1 n3 x5 i6 :=
  have h : vrj (vabv N m kX kO) = (vdt recF) := (funext fun p1 => (funext fun n3 => (funext fun x5 => (vaps N m kX kO p1 n3 x5).trans (by rw [hrec]))))
  ((vad (fun st => by kernel_rfl) (fun st => by kernel_rfl)).trans (vaak N (vabv N m kX kO) (fun j st => (vabs N m kX kO) (.exit j) st) N p1 n3 x5 i6)).trans (congrArg (fun k => vfz N k N p1 n3 x5 i6) h)
theorem vaxs (N m : Nat) (kX : St → Z0) (kO : Nat → St → Z0) (p1 : Y2) (n3 x5 : Int) : vdv N (m + 1) (veb kX kO) p1 n3 x5 = viv (vfk N N (vabs N m kX kO)) (vec kX) p1 n3 x5 := by kernel_rfl
theorem vaal (N : Nat) (kX : St → Z0) (kO : Nat → St → Z0) : ∀ (n : Nat) (p1 : Y2) (n3 x5 : Int), vdv N n (veb kX kO) p1 n3 x5 = vef N (vec kX) n p1 n3 x5
  | 0, _, _, _ => rfl
  | m + 1, p1, n3, x5 => by
    have hrec : vdv N m (veb kX kO) = (vef N (vec kX) m) := (funext fun p1 => (funext fun n3 => (funext fun x5 => vaal N kX kO m p1 n3 x5)))
    refine (vaxs N m kX kO p1 n3 x5).trans ?_
    rw [(funext fun p1 => (funext fun n3 => (funext fun x5 => (funext fun i6 => vbhr N m kX kO (vef N (vec kX) m) hrec p1 n3 x5 i6))))]
    rfl
noncomputable abbrev vabj (N : Nat) : Ex → St → Z0 := (blockK 2 (seqK ((A_zz49).shape 37) (gated ((A_zz49).shape 500018).isSome N (run (A_zz49) N (codeAt Try.f104 [1, 1, 1, 1, 1]))) vqw))
noncomputable abbrev vabp (N : Nat) : St → Z0 := fun st' => run (A_zz49) N (codeAt Try.f104 [1, 1, 1, 1, 1]) st' vqw
theorem vatr (N : Nat) : vec (vabp N) = vbz := by kernel_rfl
theorem vbga (N : Nat) (p1 : Y2) (n3 x5 : Int) : vdv N N (vabj N) p1 n3 x5 = ved N p1 n3 x5 :=
  have h : vec (vabp N) = (vbz) := vatr N
  ((vad (fun st => by kernel_rfl) (fun st => by kernel_rfl)).trans (vaal N (vabp N) (fun j st => (vabj N) (.exit j) st) N p1 n3 x5)).trans (congrArg (fun k => vef N k N p1 n3 x5) h)
noncomputable abbrev vagx (N : Nat) : St → Z0 := fun st' => run (A_zz49) N (codeAt Try.f104 [1, 1, 1, 1]) st' vqw
theorem vaxt (N : Nat) (p1 : Y2) (n3 : Int) : vut (vagx N) p1 n3 = vkh (vdv N N (vabj N)) p1 n3 := by kernel_rfl
theorem vblf (N : Nat) (p1 : Y2) (n3 x4 : Int) : vlt N N (vamf N) p1 n3 x4 = vaix N p1 n3 x4 :=
  have h : vut (vagx N) = (vkh (ved N)) := (funext fun p1 => (funext fun n3 => (vaxt N p1 n3).trans (by rw [(funext fun p1 => (funext fun n3 => (funext fun x5 => vbga N p1 n3 x5)))])))
  ((vad (fun st => by kernel_rfl) (fun st => by kernel_rfl)).trans (vade N (vagx N) (fun j st => (vamf N) (.exit j) st) N p1 n3 x4)).trans (congrArg (fun k => vlx N k N p1 n3 x4) h)
theorem run0_zz49 (N : Nat) (x : (S_zz49).a.den) : runF (A_zz49) N Try.f104 S_zz49 x = (vaqn (vlt N N (vamf N)) x.1) := by kernel_rfl
theorem run_zz49 (N : Nat) (x : (S_zz49).a.den) : runF (A_zz49) N Try.f104 S_zz49 x = zz49 N x.1 := by
  refine (run0_zz49 N x).trans ?_
  rw [(funext fun p1 => (funext fun n3 => (funext fun x4 => vblf N p1 n3 x4)))]
  rfl
theorem fn_zz49 : FnOk Try.prog 104 := ⟨_, Try.func104, by kernel_rfl, by kernel_rfl⟩
theorem good_zz49 : Gx.Good Try.prog 104 S_zz49 := vaa Try.func104 (of_decide_eq_true (by kernel_rfl)) fun x r h => ⟨A_zz49, big, vac tabOk, vab (show SigsOk Try.prog [(125, S_zz47), (69, S_zz14), (126, S_zz48)] from ⟨⟨fn_zz47, good_zz47⟩, ⟨fn_zz14, good_zz14⟩, ⟨fn_zz48, good_zz48⟩, trivial⟩), (run_zz49 big x).trans h⟩
def vnv (rec : Y2 → Y2 → Y2 → Int → Y4 → Int → Z3) (k : Y2 → Y2 → Y2 → Int → Y4 → Z3) (p1 t2 out3 : Y2) (x4 : Int) (below5 : Y4) (y6 : Int) : Z3 :=
  cond (decide (y6 < (p1.1.length : Int)))
  ((zz15 p1 x4 y6).bind fun rq1 =>
  cond rq1.1
  ((appI below5 [y6]).bind fun xq2 =>
  rec p1 t2 out3 x4 xq2 (IntKind.i64.wrap (y6 + (1 : Int))))
  (rec p1 t2 out3 x4 below5 (IntKind.i64.wrap (y6 + (1 : Int)))))
  (k p1 t2 out3 x4 below5)
def vgq (rec : Y2 → Y2 → Y2 → Int → Z3) (p1 t2 out3 : Y2) (x4 : Int) (below5 : Y4) : Z3 :=
  (appI out3.1 [below5]).bind fun xq3 =>
  rec p1 t2 (xq3, ((), out3.2).2) (IntKind.i64.wrap (x4 + (1 : Int)))
def voz (L7 : Y2 → Y2 → Y2 → Int → Y4 → Int → Z3) (k : Y2 → Y2 → Z3) (p1 t2 out3 : Y2) (x4 : Int) : Z3 :=
  cond (decide (x4 < (p1.1.length : Int)))
  (L7 p1 t2 out3 x4 [] (0 : Int))
  (k t2 out3)
def vcs (t2 out3 : Y2) : Z3 :=
  some (out3, (()))
def vapv (L3 : Y2 → Y2 → Y2 → Int → Z3) (p_0 : Y2) : Z3 :=
  L3 p_0 (([] : Y3), ()) ([], ()) (0 : Int)
def vmr (N : Nat) (k : Y2 → Y2 → Y2 → Int → Y4 → Z3) : Nat → Y2 → Y2 → Y2 → Int → Y4 → Int → Z3
  | 0, _, _, _, _, _, _ => none
  | m + 1, p1, t2, out3, x4, below5, y6 => vnv (vmr N k m) k p1 t2 out3 x4 below5 y6
def vud (N : Nat) (rec : Y2 → Y2 → Y2 → Int → Z3) (k : Y2 → Y2 → Z3) (p1 t2 out3 : Y2) (x4 : Int) (below5 : Y4) (y6 : Int) : Z3 := vmr N (vgq rec) N p1 t2 out3 x4 below5 y6
def vhi (N : Nat) (k : Y2 → Y2 → Z3) : Nat → Y2 → Y2 → Y2 → Int → Z3
  | 0, _, _, _, _ => none
  | m + 1, p1, t2, out3, x4 => voz (vud N (vhi N k m) k) k p1 t2 out3 x4
def vamh (N : Nat) (p1 t2 out3 : Y2) (x4 : Int) : Z3 := vhi N (vcs) N p1 t2 out3 x4
def zz50 (N : Nat) (p_0 : Y2) : Z3 := vapv (vamh N) p_0
def S_zz50 : Sig := { a := (.pair (.pair (.sl (.sl I)) .unit) .unit), md := [0], mf := [], m := .unit, r := (.pair (.sl (.sl I)) .unit), rf := (.p (.o (.o .i)) .i), f := fun x => zz50 big x.1 }
def A_zz50 : Cfg := mkCfg tab [(78, S_zz15)] [(6, [.drop, .as y1 (.o .i), .as y1 (.o (.p (.o (.o .i)) .i)), .as y1 (.o (.p (.o (.o .i)) .i)), .as I .i]), (14, [.drop, .as y1 (.o .i), .as y1 (.o (.p (.o (.o .i)) .i)), .as y1 (.o (.p (.o (.o .i)) .i)), .as I .i, .as (.sl I) (.o .i), .as I .i]), (25, [.drop, .drop, .as y1 (.o (.p (.o (.o .i)) .i)), .as y1 (.o (.p (.o (.o .i)) .i))]), (23, [.drop, .as y1 (.o .i), .as y1 (.o (.p (.o (.o .i)) .i)), .as y1 (.o (.p (.o (.o .i)) .i)), .as I .i, .as (.sl I) (.o .i)])]
noncomputable def vhz (N n : Nat) (K : Ex → St → Z3) (p1 t2 out3 : Y2) (x4 : Int) : Z3 := iter ((A_zz50).shape 6) (run (A_zz50) N (codeAt Try.f105 [1, 1, 0, 1, 0, 0])) n ([.u, .val y1 (.o .i) p1, .val y1 (.o (.p (.o (.o .i)) .i)) t2, .val y1 (.o (.p (.o (.o .i)) .i)) out3, .val I .i x4] ++ List.replicate 34 .u) K
noncomputable def vlv (N n : Nat) (K : Ex → St → Z3) (p1 t2 out3 : Y2) (x4 : Int) (below5 : Y4) (y6 : Int) : Z3 := iter ((A_zz50).shape 14) (run (A_zz50) N (codeAt Try.f105 [1, 1, 0, 1, 0, 0, 1, 0, 0, 1, 0, 1, 0, 0])) n ([.u, .val y1 (.o .i) p1, .val y1 (.o (.p (.o (.o .i)) .i)) t2, .val y1 (.o (.p (.o (.o .i)) .i)) out3, .val I .i x4, .val (.sl I) (.o .i) below5, .val I .i y6] ++ List.replicate 32 .u) K
noncomputable abbrev vaeo : Ex → St → Z3 := finish (A_zz50) S_zz50 Try.f105.results.toList
noncomputable abbrev vfm (kX : St → Z3) : Y2 → Y2 → Z3 := fun (t2 out3 : Y2) => kX ([.u, .u, .val y1 (.o (.p (.o (.o .i)) .i)) t2, .val y1 (.o (.p (.o (.o .i)) .i)) out3] ++ List.replicate 35 .u)
noncomputable abbrev vga (kX : St → Z3) (kO : Nat → St → Z3) : Ex → St → Z3 := exK vaeo 0 ((A_zz50).shape 25) kX kO
noncomputable abbrev vsw (kX : St → Z3) : Y2 → Y2 → Y2 → Int → Y4 → Z3 := fun (p1 t2 out3 : Y2) (x4 : Int) (below5 : Y4) => kX ([.u, .val y1 (.o .i) p1, .val y1 (.o (.p (.o (.o .i)) .i)) t2, .val y1 (.o (.p (.o (.o .i)) .i)) out3, .val I .i x4, .val (.sl I) (.o .i) below5] ++ List.replicate 33 .u)
noncomputable abbrev vzd (kX : St → Z3) (kO : Nat → St → Z3) : Ex → St → Z3 := exK vaeo 2 ((A_zz50).shape 23) kX kO
theorem vbax (N m : Nat) (kX : St → Z3) (kO : Nat → St → Z3) (p1 t2 out3 : Y2) (x4 : Int) (below5 : Y4) (y6 : Int) : vlv N (m + 1) (vzd kX kO) p1 t2 out3 x4 below5 y6 = vnv (vlv N m (vzd kX kO)) (vsw kX) p1 t2 out3 x4 below5 y6 := by kernel_rfl
theorem vaeq (N : Nat) (kX : St → Z3) (kO : Nat → St → Z3) : ∀ (n : Nat) (p1 t2 out3 : Y2) (x4 : Int) (below5 : Y4) (y6 : Int), vlv N n (vzd kX kO) p1 t2 out3 x4 below5 y6 = vmr N (vsw kX) n p1 t2 out3 x4 below5 y6
  | 0, _, _, _, _, _, _ => rfl
  | m + 1, p1, t2, out3, x4, below5, y6 => by
    have hrec : vlv N m (vzd kX kO) = (vmr N (vsw kX) m) := (funext fun p1 => (funext fun t2 => (funext fun out3 => (funext fun x4 => (funext fun below5 => (funext fun y6 => vaeq N kX kO m p1 t2 out3 x4 below5 y6))))))
    refine (vbax N m kX kO p1 t2 out3 x4 below5 y6).trans ?_
    rw [hrec]
    rfl
noncomputable abbrev vamp (N m : Nat) (kX : St → Z3) (kO : Nat → St → Z3) : Ex → St → Z3 := (blockK 2 (seqK ((A_zz50).shape 23) (gated ((A_zz50).shape 500011).isSome N (run (A_zz50) N (codeAt Try.f105 [1, 1, 0, 1, 0, 0, 1, 0, 0, 1, 1]))) (blockK 1 (seqK ((A_zz50).shape 9) (gated ((A_zz50).shape 500004).isSome N (run (A_zz50) N (codeAt Try.f105 [1, 1, 0, 1, 0, 0, 1, 1]))) (iterK ((A_zz50).shape 6) (run (A_zz50) N (codeAt Try.f105 [1, 1, 0, 1, 0, 0])) m (vga kX kO))))))
noncomputable abbrev vahh (N m : Nat) (kX : St → Z3) (kO : Nat → St → Z3) : St → Z3 := fun st' => run (A_zz50) N (codeAt Try.f105 [1, 1, 0, 1, 0, 0, 1, 0, 0, 1, 1]) st' (blockK 1 (seqK ((A_zz50).shape 9) (gated ((A_zz50).shape 500004).isSome N (run (A_zz50) N (codeAt Try.f105 [1, 1, 0, 1, 0, 0, 1, 1]))) (iterK ((A_zz50).shape 6) (run (A_zz50) N (codeAt Try.f105 [1, 1, 0, 1, 0, 0])) m (vga kX kO))))
theorem vawr (N m : Nat) (kX : St → Z3) (kO : Nat → St → Z3) (p1 t2 out3 : Y2) (x4 : Int) (below5 : Y4) : vsw (vahh N m kX kO) p1 t2 out3 x4 below5 = vgq (vhz N m (vga kX kO)) p1 t2 out3 x4 below5 := by kernel_rfl
theorem vblg (N m : Nat) (kX : St → Z3) (kO : Nat → St → Z3) (recF : Y2 → Y2 → Y2 → Int → Z3) (hrec : vhz N m (vga kX kO) = recF) (p1 t2 out3 : Y2) (x4 : Int) (below5 : Y4) (y6 : Int) : vlv N N (vamp N m kX kO) p1 t2 out3 x4 below5 y6 = vud N recF (vfm kX) p1 t2 out3 x4 below5 y6 :=
  have h : vsw (vahh N m kX kO) = (vgq recF) := (funext fun p1 => (funext fun t2 => (funext fun out3 => (funext fun x4 => (funext fun below5 => (vawr N m kX kO p1 t2 out3 x4 below5).trans (by rw [hrec]))))))
  ((vad (fun st => by kernel_rfl) (fun st => by kernel_rfl)).trans (vaeq N (vahh N m kX kO) (fun j st => (vamp N m kX kO) (.exit j) st) N p1 t2 out3 x4 below5 y6)).trans (congrArg (fun k => vmr N k N p1 t2 out3 x4 below5 y6) h)
theorem vbaw (N m : Nat) (kX : St → Z3) (kO : Nat → St → Z3) (p1 t2 out3 : Y2) (x4 : Int) : vhz N (m + 1) (vga kX kO) p1 t2 out3 x4 = voz (vlv N N (vamp N m kX kO)) (vfm kX) p1 t2 out3 x4 := by kernel_rfl
theorem vafj (N : Nat) (kX : St → Z3) (kO : Nat → St → Z3) : ∀ (n : Nat) (p1 t2 out3 : Y2) (x4 : Int), vhz N n (vga kX kO) p1 t2 out3 x4 = vhi N (vfm kX) n p1 t2 out3 x4
  | 0, _, _, _, _ => rfl
  | m + 1, p1, t2, out3, x4 => by
    have hrec : vhz N m (vga kX kO) = (vhi N (vfm kX) m) := (funext fun p1 => (funext fun t2 => (funext fun out3 => (funext fun x4 => vafj N kX kO m p1 t2 out3 x4))))
    refine (vbaw N m kX kO p1 t2 out3 x4).trans ?_
    rw [(funext fun p1 => (funext fun t2 => (funext fun out3 => (funext fun x4 => (funext fun below5 => (funext fun y6 => vblg N m kX kO (vhi N (vfm kX) m) hrec p1 t2 out3 x4 below5 y6))))))]
    rfl
noncomputable abbrev vakt (N : Nat) : Ex → St → Z3 := (blockK 0 (seqK ((A_zz50).shape 25) (gated ((A_zz50).shape 500012).isSome N (run (A_zz50) N (codeAt Try.f105 [1, 1, 1]))) vaeo))
noncomputable abbrev vagl (N : Nat) : St → Z3 := fun st' => run (A_zz50) N (codeAt Try.f105 [1, 1, 1]) st' vaeo
theorem vave (N : Nat) (t2 out3 : Y2) : vfm (vagl N) t2 out3 = vcs t2 out3 := by kernel_rfl
theorem vbiz (N : Nat) (p1 t2 out3 : Y2) (x4 : Int) : vhz N N (vakt N) p1 t2 out3 x4 = vamh N p1 t2 out3 x4 :=
  have h : vfm (vagl N) = (vcs) := (funext fun t2 => (funext fun out3 => vave N t2 out3))
  ((vad (fun st => by kernel_rfl) (fun st => by kernel_rfl)).trans (vafj N (vagl N) (fun j st => (vakt N) (.exit j) st) N p1 t2 out3 x4)).trans (congrArg (fun k => vhi N k N p1 t2 out3 x4) h)
theorem run0_zz50 (N : Nat) (x : (S_zz50).a.den) : runF (A_zz50) N Try.f105 S_zz50 x = (vapv (vhz N N (vakt N)) x.1) := by kernel_rfl
theorem run_zz50 (N : Nat) (x : (S_zz50).a.den) : runF (A_zz50) N Try.f105 S_zz50 x = zz50 N x.1 := by
  refine (run0_zz50 N x).trans ?_
  rw [(funext fun p1 => (funext fun t2 => (funext fun out3 => (funext fun x4 => vbiz N p1 t2 out3 x4))))]
  rfl
theorem fn_zz50 : FnOk Try.prog 105 := ⟨_, Try.func105, by kernel_rfl, by kernel_rfl⟩
theorem good_zz50 : Gx.Good Try.prog 105 S_zz50 := vaa Try.func105 (of_decide_eq_true (by kernel_rfl)) fun x r h => ⟨A_zz50, big, vac tabOk, vab (show SigsOk Try.prog [(78, S_zz15)] from ⟨⟨fn_zz15, good_zz15⟩, trivial⟩), (run_zz50 big x).trans h⟩
def vgu (rec : Y2 → Y4 → Int → Z6) (k : Z6) (p2 : Y2) (low5 : Y4) (i9 : Int) : Z6 :=
  cond (decide (i9 < (low5.length : Int)))
  ((atI low5 i9).bind fun _ =>
  (low5[i9.toNat]?).bind fun xq4 =>
  (atI p2.1 xq4).bind fun xq5 =>
  (zz48 big low5 xq5).bind fun rq6 =>
  cond rq6.1
  ((atI low5 i9).bind fun _ =>
  (low5[i9.toNat]?).bind fun xq7 =>
  some (xq7, (())))
  (rec p2 low5 (IntKind.i64.wrap (i9 + (1 : Int)))))
  (k)
def vds : Z6 :=
  some ((-1 : Int), (()))
def vne (rec : Y4 → Y2 → Y4 → Int → Bool → Int → Z6) (k : Y4 → Y2 → Y4 → Int → Bool → Z6) (some1 : Y4) (p2 : Y2) (low5 : Y4) (z6 : Int) (all7 : Bool) (i8 : Int) : Z6 :=
  cond (decide (i8 < (some1.length : Int)))
  (cond all7
  ((atI some1 i8).bind fun xq1 =>
  (zz15 p2 z6 xq1).bind fun rq2 =>
  rec some1 p2 low5 z6 rq2.1 (IntKind.i64.wrap (i8 + (1 : Int))))
  (rec some1 p2 low5 z6 false (IntKind.i64.wrap (i8 + (1 : Int)))))
  (k some1 p2 low5 z6 all7)
def vjw (rec : Y4 → Y2 → Y4 → Int → Z6) (some1 : Y4) (p2 : Y2) (low5 : Y4) (z6 : Int) (all7 : Bool) : Z6 :=
  cond all7
  ((appI low5 [z6]).bind fun xq3 =>
  rec some1 p2 xq3 (IntKind.i64.wrap (z6 + (1 : Int))))
  (rec some1 p2 low5 (IntKind.i64.wrap (z6 + (1 : Int))))
def vmp (L7 : Y4 → Y2 → Y4 → Int → Bool → Int → Z6) (k : Y2 → Y4 → Z6) (some1 : Y4) (p2 : Y2) (low5 : Y4) (z6 : Int) : Z6 :=
  cond (decide (z6 < (p2.1.length : Int)))
  (L7 some1 p2 low5 z6 true (0 : Int))
  (k p2 low5)
def vcu (L13 : Y2 → Y4 → Int → Z6) (p2 : Y2) (low5 : Y4) : Z6 :=
  L13 p2 low5 (0 : Int)
def vatg (L3 : Y4 → Y2 → Y4 → Int → Z6) (p_0 : Y2) (some_1 : Y4) : Z6 :=
  L3 some_1 p_0 [] (0 : Int)
def vnr (N : Nat) (k : Y4 → Y2 → Y4 → Int → Bool → Z6) : Nat → Y4 → Y2 → Y4 → Int → Bool → Int → Z6
  | 0, _, _, _, _, _, _ => none
  | m + 1, some1, p2, low5, z6, all7, i8 => vne (vnr N k m) k some1 p2 low5 z6 all7 i8
def vux (N : Nat) (rec : Y4 → Y2 → Y4 → Int → Z6) (k : Y2 → Y4 → Z6) (some1 : Y4) (p2 : Y2) (low5 : Y4) (z6 : Int) (all7 : Bool) (i8 : Int) : Z6 := vnr N (vjw rec) N some1 p2 low5 z6 all7 i8
def vjo (N : Nat) (k : Y2 → Y4 → Z6) : Nat → Y4 → Y2 → Y4 → Int → Z6
  | 0, _, _, _, _ => none
  | m + 1, some1, p2, low5, z6 => vmp (vux N (vjo N k m) k) k some1 p2 low5 z6
def vhr (N : Nat) (k : Z6) : Nat → Y2 → Y4 → Int → Z6
  | 0, _, _, _ => none
  | m + 1, p2, low5, i9 => vgu (vhr N k m) k p2 low5 i9
def vby (N : Nat) (p2 : Y2) (low5 : Y4) (i9 : Int) : Z6 := vhr N (vds) N p2 low5 i9
def vahn (N : Nat) (some1 : Y4) (p2 : Y2) (low5 : Y4) (z6 : Int) : Z6 := vjo N (vcu (vby N)) N some1 p2 low5 z6
def zz51 (N : Nat) (p_0 : Y2) (some_1 : Y4) : Z6 := vatg (vahn N) p_0 some_1
def S_zz51 : Sig := { a := (.pair (.pair (.sl (.sl I)) .unit) (.pair (.sl I) .unit)), md := [0, 0], mf := [], m := .unit, r := I, rf := .i, f := fun x => zz51 big x.1 x.2.1 }
def A_zz51 : Cfg := mkCfg tab [(78, S_zz15), (126, S_zz48)] [(6, [.drop, .as (.sl I) .i, .as y1 (.o .i), .drop, .drop, .as (.sl I) (.o .i), .as I .i]), (14, [.drop, .as (.sl I) .i, .as y1 (.o .i), .drop, .drop, .as (.sl I) (.o .i), .as I .i, .as .bool .i, .as I .i]), (25, [.drop, .drop, .as y1 (.o .i), .drop, .drop, .as (.sl I) (.o .i)]), (26, [.drop, .drop, .as y1 (.o .i), .drop, .drop, .as (.sl I) (.o .i), .drop, .drop, .drop, .as I .i]), (21, [.drop, .as (.sl I) .i, .as y1 (.o .i), .drop, .drop, .as (.sl I) (.o .i), .as I .i, .as .bool .i]), (35, [])]
noncomputable def vja (N n : Nat) (K : Ex → St → Z6) (some1 : Y4) (p2 : Y2) (low5 : Y4) (z6 : Int) : Z6 := iter ((A_zz51).shape 6) (run (A_zz51) N (codeAt Try.f106 [1, 1, 0, 1, 0, 0])) n ([.u, .val (.sl I) .i some1, .val y1 (.o .i) p2, .u, .u, .val (.sl I) (.o .i) low5, .val I .i z6] ++ List.replicate 52 .u) K
noncomputable def voj (N n : Nat) (K : Ex → St → Z6) (some1 : Y4) (p2 : Y2) (low5 : Y4) (z6 : Int) (all7 : Bool) (i8 : Int) : Z6 := iter ((A_zz51).shape 14) (run (A_zz51) N (codeAt Try.f106 [1, 1, 0, 1, 0, 0, 1, 0, 0, 1, 0, 1, 0, 0])) n ([.u, .val (.sl I) .i some1, .val y1 (.o .i) p2, .u, .u, .val (.sl I) (.o .i) low5, .val I .i z6, .val .bool .i all7, .val I .i i8] ++ List.replicate 50 .u) K
noncomputable def vfg (N n : Nat) (K : Ex → St → Z6) (p2 : Y2) (low5 : Y4) (i9 : Int) : Z6 := iter ((A_zz51).shape 26) (run (A_zz51) N (codeAt Try.f106 [1, 1, 1, 0, 1, 0, 0])) n ([.u, .u, .val y1 (.o .i) p2, .u, .u, .val (.sl I) (.o .i) low5, .u, .u, .u, .val I .i i9] ++ List.replicate 49 .u) K
noncomputable abbrev vrc : Ex → St → Z6 := finish (A_zz51) S_zz51 Try.f106.results.toList
noncomputable abbrev vjf (kX : St → Z6) : Y2 → Y4 → Z6 := fun (p2 : Y2) (low5 : Y4) => kX ([.u, .u, .val y1 (.o .i) p2, .u, .u, .val (.sl I) (.o .i) low5] ++ List.replicate 53 .u)
noncomputable abbrev vfo (kX : St → Z6) (kO : Nat → St → Z6) : Ex → St → Z6 := exK vrc 0 ((A_zz51).shape 25) kX kO
noncomputable abbrev vth (kX : St → Z6) : Y4 → Y2 → Y4 → Int → Bool → Z6 := fun (some1 : Y4) (p2 : Y2) (low5 : Y4) (z6 : Int) (all7 : Bool) => kX ([.u, .val (.sl I) .i some1, .val y1 (.o .i) p2, .u, .u, .val (.sl I) (.o .i) low5, .val I .i z6, .val .bool .i all7] ++ List.replicate 51 .u)
noncomputable abbrev vzo (kX : St → Z6) (kO : Nat → St → Z6) : Ex → St → Z6 := exK vrc 2 ((A_zz51).shape 21) kX kO
noncomputable abbrev vri (kX : St → Z6) : Z6 := kX ([] ++ List.replicate 59 .u)
noncomputable abbrev vvu (kX : St → Z6) (kO : Nat → St → Z6) : Ex → St → Z6 := exK vrc 4 ((A_zz51).shape 35) kX kO
theorem vbcs (N m : Nat) (kX : St → Z6) (kO : Nat → St → Z6) (some1 : Y4) (p2 : Y2) (low5 : Y4) (z6 : Int) (all7 : Bool) (i8 : Int) : voj N (m + 1) (vzo kX kO) some1 p2 low5 z6 all7 i8 = vne (voj N m (vzo kX kO)) (vth kX) some1 p2 low5 z6 all7 i8 := by kernel_rfl
theorem vacp (N : Nat) (kX : St → Z6) (kO : Nat → St → Z6) : ∀ (n : Nat) (some1 : Y4) (p2 : Y2) (low5 : Y4) (z6 : Int) (all7 : Bool) (i8 : Int), voj N n (vzo kX kO) some1 p2 low5 z6 all7 i8 = vnr N (vth kX) n some1 p2 low5 z6 all7 i8
  | 0, _, _, _, _, _, _ => rfl
  | m + 1, some1, p2, low5, z6, all7, i8 => by
    have hrec : voj N m (vzo kX kO) = (vnr N (vth kX) m) := (funext fun some1 => (funext fun p2 => (funext fun low5 => (funext fun z6 => (funext fun all7 => (funext fun i8 => vacp N kX kO m some1 p2 low5 z6 all7 i8))))))
    refine (vbcs N m kX kO some1 p2 low5 z6 all7 i8).trans ?_
    rw [hrec]
    rfl
noncomputable abbrev vall (N m : Nat) (kX : St → Z6) (kO : Nat → St → Z6) : Ex → St → Z6 := (blockK 2 (seqK ((A_zz51).shape 21) (gated ((A_zz51).shape 500010).isSome N (run (A_zz51) N (codeAt Try.f106 [1, 1, 0, 1, 0, 0, 1, 0, 0, 1, 1]))) (blockK 1 (seqK ((A_zz51).shape 9) (gated ((A_zz51).shape 500004).isSome N (run (A_zz51) N (codeAt Try.f106 [1, 1, 0, 1, 0, 0, 1, 1]))) (iterK ((A_zz51).shape 6) (run (A_zz51) N (codeAt Try.f106 [1, 1, 0, 1, 0, 0])) m (vfo kX kO))))))
noncomputable abbrev vahq (N m : Nat) (kX : St → Z6) (kO : Nat → St → Z6) : St → Z6 := fun st' => run (A_zz51) N (codeAt Try.f106 [1, 1, 0, 1, 0, 0, 1, 0, 0, 1, 1]) st' (blockK 1 (seqK ((A_zz51).shape 9) (gated ((A_zz51).shape 500004).isSome N (run (A_zz51) N (codeAt Try.f106 [1, 1, 0, 1, 0, 0, 1, 1]))) (iterK ((A_zz51).shape 6) (run (A_zz51) N (codeAt Try.f106 [1, 1, 0, 1, 0, 0])) m (vfo kX kO))))
theorem vawk (N m : Nat) (kX : St → Z6) (kO : Nat → St → Z6) (some1 : Y4) (p2 : Y2) (low5 : Y4) (z6 : Int) (all7 : Bool) : vth (vahq N m kX kO) some1 p2 low5 z6 all7 = vjw (vja N m (vfo kX kO)) some1 p2 low5 z6 all7 := by kernel_rfl
theorem vbic (N m : Nat) (kX : St → Z6) (kO : Nat → St → Z6) (recF : Y4 → Y2 → Y4 → Int → Z6) (hrec : vja N m (vfo kX kO) = recF) (some1 : Y4) (p2 : Y2) (low5 : Y4) (z6 : Int) (all7 : Bool) (i8 : Int) : voj N N (vall N m kX kO) some1 p2 low5 z6 all7 i8 = vux N recF (vjf kX) some1 p2 low5 z6 all7 i8 :=
  have h : vth (vahq N m kX kO) = (vjw recF) := (funext fun some1 => (funext fun p2 => (funext fun low5 => (funext fun z6 => (funext fun all7 => (vawk N m kX kO some1 p2 low5 z6 all7).trans (by rw [hrec]))))))
  ((vad (fun st => by kernel_rfl) (fun st => by kernel_rfl)).trans (vacp N (vahq N m kX kO) (fun j st => (vall N m kX kO) (.exit j) st) N some1 p2 low5 z6 all7 i8)).trans (congrArg (fun k => vnr N k N some1 p2 low5 z6 all7 i8) h)
theorem vbcm (N m : Nat) (kX : St → Z6) (kO : Nat → St → Z6) (some1 : Y4) (p2 : Y2) (low5 : Y4) (z6 : Int) : vja N (m + 1) (vfo kX kO) some1 p2 low5 z6 = vmp (voj N N (vall N m kX kO)) (vjf kX) some1 p2 low5 z6 := by kernel_rfl
theorem vaec (N : Nat) (kX : St → Z6) (kO : Nat → St → Z6) : ∀ (n : Nat) (some1 : Y4) (p2 : Y2) (low5 : Y4) (z6 : Int), vja N n (vfo kX kO) some1 p2 low5 z6 = vjo N (vjf kX) n some1 p2 low5 z6
  | 0, _, _, _, _ => rfl
  | m + 1, some1, p2, low5, z6 => by
    have hrec : vja N m (vfo kX kO) = (vjo N (vjf kX) m) := (funext fun some1 => (funext fun p2 => (funext fun low5 => (funext fun z6 => vaec N kX kO m some1 p2 low5 z6))))
    refine (vbcm N m kX kO some1 p2 low5 z6).trans ?_
    rw [(funext fun some1 => (funext fun p2 => (funext fun low5 => (funext fun z6 => (funext fun all7 => (funext fun i8 => vbic N m kX kO (vjo N (vjf kX) m) hrec some1 p2 low5 z6 all7 i8))))))]
    rfl
noncomputable abbrev vagp (N : Nat) : Ex → St → Z6 := (blockK 0 (seqK ((A_zz51).shape 25) (gated ((A_zz51).shape 500012).isSome N (run (A_zz51) N (codeAt Try.f106 [1, 1, 1]))) vrc))
theorem vavv (N m : Nat) (kX : St → Z6) (kO : Nat → St → Z6) (p2 : Y2) (low5 : Y4) (i9 : Int) : vfg N (m + 1) (vvu kX kO) p2 low5 i9 = vgu (vfg N m (vvu kX kO)) (vri kX) p2 low5 i9 := by kernel_rfl
theorem vaaw (N : Nat) (kX : St → Z6) (kO : Nat → St → Z6) : ∀ (n : Nat) (p2 : Y2) (low5 : Y4) (i9 : Int), vfg N n (vvu kX kO) p2 low5 i9 = vhr N (vri kX) n p2 low5 i9
  | 0, _, _, _ => rfl
  | m + 1, p2, low5, i9 => by
    have hrec : vfg N m (vvu kX kO) = (vhr N (vri kX) m) := (funext fun p2 => (funext fun low5 => (funext fun i9 => vaaw N kX kO m p2 low5 i9)))
    refine (vavv N m kX kO p2 low5 i9).trans ?_
    rw [hrec]
    rfl
noncomputable abbrev vabx (N : Nat) : Ex → St → Z6 := (blockK 4 (seqK ((A_zz51).shape 35) (gated ((A_zz51).shape 500017).isSome N (run (A_zz51) N (codeAt Try.f106 [1, 1, 1, 1]))) vrc))
noncomputable abbrev vabw (N : Nat) : St → Z6 := fun st' => run (A_zz51) N (codeAt Try.f106 [1, 1, 1, 1]) st' vrc
theorem varw (N : Nat) : vri (vabw N) = vds := by kernel_rfl
theorem vbea (N : Nat) (p2 : Y2) (low5 : Y4) (i9 : Int) : vfg N N (vabx N) p2 low5 i9 = vby N p2 low5 i9 :=
  have h : vri (vabw N) = (vds) := varw N
  ((vad (fun st => by kernel_rfl) (fun st => by kernel_rfl)).trans (vaaw N (vabw N) (fun j st => (vabx N) (.exit j) st) N p2 low5 i9)).trans (congrArg (fun k => vhr N k N p2 low5 i9) h)
noncomputable abbrev vair (N : Nat) : St → Z6 := fun st' => run (A_zz51) N (codeAt Try.f106 [1, 1, 1]) st' vrc
theorem vavw (N : Nat) (p2 : Y2) (low5 : Y4) : vjf (vair N) p2 low5 = vcu (vfg N N (vabx N)) p2 low5 := by kernel_rfl
theorem vbki (N : Nat) (some1 : Y4) (p2 : Y2) (low5 : Y4) (z6 : Int) : vja N N (vagp N) some1 p2 low5 z6 = vahn N some1 p2 low5 z6 :=
  have h : vjf (vair N) = (vcu (vby N)) := (funext fun p2 => (funext fun low5 => (vavw N p2 low5).trans (by rw [(funext fun p2 => (funext fun low5 => (funext fun i9 => vbea N p2 low5 i9)))])))
  ((vad (fun st => by kernel_rfl) (fun st => by kernel_rfl)).trans (vaec N (vair N) (fun j st => (vagp N) (.exit j) st) N some1 p2 low5 z6)).trans (congrArg (fun k => vjo N k N some1 p2 low5 z6) h)
theorem run0_zz51 (N : Nat) (x : (S_zz51).a.den) : runF (A_zz51) N Try.f106 S_zz51 x = (vatg (vja N N (vagp N)) x.1 x.2.1) := by kernel_rfl
theorem run_zz51 (N : Nat) (x : (S_zz51).a.den) : runF (A_zz51) N Try.f106 S_zz51 x = zz51 N x.1 x.2.1 := by
  refine (run0_zz51 N x).trans ?_
  rw [(funext fun some1 => (funext fun p2 => (funext fun low5 => (funext fun z6 => vbki N some1 p2 low5 z6))))]
  rfl
theorem fn_zz51 : FnOk Try.prog 106 := ⟨_, Try.func106, by kernel_rfl, by kernel_rfl⟩
theorem good_zz51 : Gx.Good Try.prog 106 S_zz51 := vaa Try.func106 (of_decide_eq_true (by kernel_rfl)) fun x r h => ⟨A_zz51, big, vac tabOk, vab (show SigsOk Try.prog [(78, S_zz15), (126, S_zz48)] from ⟨⟨fn_zz15, good_zz15⟩, ⟨fn_zz48, good_zz48⟩, trivial⟩), (run_zz51 big x).trans h⟩
def vpg (rec : Y2 → Y2 → Int → Int → Z0) (k : Y2 → Y2 → Int → Z0) (p1 dual3 : Y2) (x4 y5 : Int) : Z0 :=
  cond (decide (y5 < x4))
  ((zz51 big p1 [x4, y5]).bind fun rq3 =>
  cond (decide (rq3.1 < (0 : Int)))
  (some (false, (())))
  ((zz51 big dual3 [x4, y5]).bind fun rq4 =>
  cond (decide (rq4.1 < (0 : Int)))
  (some (false, (())))
  (rec p1 dual3 x4 (IntKind.i64.wrap (y5 + (1 : Int))))))
  (k p1 dual3 x4)
def vfe (rec : Y2 → Y2 → Int → Z0) (p1 dual3 : Y2) (x4 : Int) : Z0 :=
  rec p1 dual3 (IntKind.i64.wrap (x4 + (1 : Int)))
def vnz (L8 : Y2 → Y2 → Int → Int → Z0) (k : Z0) (p1 dual3 : Y2) (x4 : Int) : Z0 :=
  cond (decide (x4 < (p1.1.length : Int)))
  (L8 p1 dual3 x4 (0 : Int))
  (k)
def vdj : Z0 :=
  some (true, (()))
def vare (L5 : Y2 → Y2 → Int → Z0) (p_0 : Y2) : Z0 :=
  (zz49 big p_0).bind fun rq1 =>
  cond (!rq1.1)
  (some (false, (())))
  (cond (decide ((p_0.1.length : Int) = (0 : Int)))
  (some (false, (())))
  ((zz50 big p_0).bind fun rq2 =>
  L5 p_0 rq2.1 (0 : Int)))
def vmm (N : Nat) (k : Y2 → Y2 → Int → Z0) : Nat → Y2 → Y2 → Int → Int → Z0
  | 0, _, _, _, _ => none
  | m + 1, p1, dual3, x4, y5 => vpg (vmm N k m) k p1 dual3 x4 y5
def vuq (N : Nat) (rec : Y2 → Y2 → Int → Z0) (k : Z0) (p1 dual3 : Y2) (x4 y5 : Int) : Z0 := vmm N (vfe rec) N p1 dual3 x4 y5
def vft (N : Nat) (k : Z0) : Nat → Y2 → Y2 → Int → Z0
  | 0, _, _, _ => none
  | m + 1, p1, dual3, x4 => vnz (vuq N (vft N k m) k) k p1 dual3 x4
def vakk (N : Nat) (p1 dual3 : Y2) (x4 : Int) : Z0 := vft N (vdj) N p1 dual3 x4
def zz52 (N : Nat) (p_0 : Y2) : Z0 := vare (vakk N) p_0
def S_zz52 : Sig := { a := (.pair (.pair (.sl (.sl I)) .unit) .unit), md := [0], mf := [], m := .unit, r := .bool, rf := .i, f := fun x => zz52 big x.1 }
def A_zz52 : Cfg := mkCfg tab [(104, S_zz49), (105, S_zz50), (106, S_zz51)] [(10, [.drop, .as y1 (.o .i), .drop, .as y1 (.o (.p (.o (.o .i)) .i)), .as I .i]), (16, [.drop, .as y1 (.o .i), .drop, .as y1 (.o (.p (.o (.o .i)) .i)), .as I .i, .as I .i]), (25, []), (13, [.drop, .as y1 (.o .i), .drop, .as y1 (.o (.p (.o (.o .i)) .i)), .as I .i])]
noncomputable def vhd (N n : Nat) (K : Ex → St → Z0) (p1 dual3 : Y2) (x4 : Int) : Z0 := iter ((A_zz52).shape 10) (run (A_zz52) N (codeAt Try.f55 [1, 1, 1, 0, 1, 0, 0])) n ([.u, .val y1 (.o .i) p1, .u, .val y1 (.o (.p (.o (.o .i)) .i)) dual3, .val I .i x4] ++ List.replicate 38 .u) K
noncomputable def vpp (N n : Nat) (K : Ex → St → Z0) (p1 dual3 : Y2) (x4 y5 : Int) : Z0 := iter ((A_zz52).shape 16) (run (A_zz52) N (codeAt Try.f55 [1, 1, 1, 0, 1, 0, 0, 1, 0, 0, 1, 0, 0])) n ([.u, .val y1 (.o .i) p1, .u, .val y1 (.o (.p (.o (.o .i)) .i)) dual3, .val I .i x4, .val I .i y5] ++ List.replicate 37 .u) K
noncomputable abbrev vacz : Ex → St → Z0 := finish (A_zz52) S_zz52 Try.f55.results.toList
noncomputable abbrev vid (kX : St → Z0) : Z0 := kX ([] ++ List.replicate 43 .u)
noncomputable abbrev vhc (kX : St → Z0) (kO : Nat → St → Z0) : Ex → St → Z0 := exK vacz 0 ((A_zz52).shape 25) kX kO
noncomputable abbrev vus (kX : St → Z0) : Y2 → Y2 → Int → Z0 := fun (p1 dual3 : Y2) (x4 : Int) => kX ([.u, .val y1 (.o .i) p1, .u, .val y1 (.o (.p (.o (.o .i)) .i)) dual3, .val I .i x4] ++ List.replicate 38 .u)
noncomputable abbrev vys (kX : St → Z0) (kO : Nat → St → Z0) : Ex → St → Z0 := exK vacz 2 ((A_zz52).shape 13) kX kO
theorem vbce (N m : Nat) (kX : St → Z0) (kO : Nat → St → Z0) (p1 dual3 : Y2) (x4 y5 : Int) : vpp N (m + 1) (vys kX kO) p1 dual3 x4 y5 = vpg (vpp N m (vys kX kO)) (vus kX) p1 dual3 x4 y5 := by kernel_rfl
theorem vagg (N : Nat) (kX : St → Z0) (kO : Nat → St → Z0) : ∀ (n : Nat) (p1 dual3 : Y2) (x4 y5 : Int), vpp N n (vys kX kO) p1 dual3 x4 y5 = vmm N (vus kX) n p1 dual3 x4 y5
  | 0, _, _, _, _ => rfl
  | m + 1, p1, dual3, x4, y5 => by
    have hrec : vpp N m (vys kX kO) = (vmm N (vus kX) m) := (funext fun p1 => (funext fun dual3 => (funext fun x4 => (funext fun y5 => vagg N kX kO m p1 dual3 x4 y5))))
    refine (vbce N m kX kO p1 dual3 x4 y5).trans ?_
    rw [hrec]
    rfl
noncomputable abbrev vaiv (N m : Nat) (kX : St → Z0) (kO : Nat → St → Z0) : Ex → St → Z0 := (blockK 2 (blockK 1 (seqK ((A_zz52).shape 13) (gated ((A_zz52).shape 500006).isSome N (run (A_zz52) N (codeAt Try.f55 [1, 1, 1, 0, 1, 0, 0, 1, 1]))) (iterK ((A_zz52).shape 10) (run (A_zz52) N (codeAt Try.f55 [1, 1, 1, 0, 1, 0, 0])) m (vhc kX kO)))))
noncomputable abbrev vahs (N m : Nat) (kX : St → Z0) (kO : Nat → St → Z0) : St → Z0 := fun st' => run (A_zz52) N (codeAt Try.f55 [1, 1, 1, 0, 1, 0, 0, 1, 1]) st' (iterK ((A_zz52).shape 10) (run (A_zz52) N (codeAt Try.f55 [1, 1, 1, 0, 1, 0, 0])) m (vhc kX kO))
theorem vavq (N m : Nat) (kX : St → Z0) (kO : Nat → St → Z0) (p1 dual3 : Y2) (x4 : Int) : vus (vahs N m kX kO) p1 dual3 x4 = vfe (vhd N m (vhc kX kO)) p1 dual3 x4 := by kernel_rfl
theorem vbjz (N m : Nat) (kX : St → Z0) (kO : Nat → St → Z0) (recF : Y2 → Y2 → Int → Z0) (hrec : vhd N m (vhc kX kO) = recF) (p1 dual3 : Y2) (x4 y5 : Int) : vpp N N (vaiv N m kX kO) p1 dual3 x4 y5 = vuq N recF (vid kX) p1 dual3 x4 y5 :=
  have h : vus (vahs N m kX kO) = (vfe recF) := (funext fun p1 => (funext fun dual3 => (funext fun x4 => (vavq N m kX kO p1 dual3 x4).trans (by rw [hrec]))))
  ((vad (fun st => by kernel_rfl) (fun st => by kernel_rfl)).trans (vagg N (vahs N m kX kO) (fun j st => (vaiv N m kX kO) (.exit j) st) N p1 dual3 x4 y5)).trans (congrArg (fun k => vmm N k N p1 dual3 x4 y5) h)
theorem vbbm (N m : Nat) (kX : St → Z0) (kO : Nat → St → Z0) (p1 dual3 : Y2) (x4 : Int) : vhd N (m + 1) (vhc kX kO) p1 dual3 x4 = vnz (vpp N N (vaiv N m kX kO)) (vid kX) p1 dual3 x4 := by kernel_rfl
theorem vacr (N : Nat) (kX : St → Z0) (kO : Nat → St → Z0) : ∀ (n : Nat) (p1 dual3 : Y2) (x4 : Int), vhd N n (vhc kX kO) p1 dual3 x4 = vft N (vid kX) n p1 dual3 x4
  | 0, _, _, _ => rfl
  | m + 1, p1, dual3, x4 => by
    have hrec : vhd N m (vhc kX kO) = (vft N (vid kX) m) := (funext fun p1 => (funext fun dual3 => (funext fun x4 => vacr N kX kO m p1 dual3 x4)))
    refine (vbbm N m kX kO p1 dual3 x4).trans ?_
    rw [(funext fun p1 => (funext fun dual3 => (funext fun x4 => (funext fun y5 => vbjz N m kX kO (vft N (vid kX) m) hrec p1 dual3 x4 y5))))]
    rfl
noncomputable abbrev vamb (N : Nat) : Ex → St → Z0 := (blockK 0 (seqK ((A_zz52).shape 25) (gated ((A_zz52).shape 500012).isSome N (run (A_zz52) N (codeAt Try.f55 [1, 1, 1, 1]))) vacz))
noncomputable abbrev vakv (N : Nat) : St → Z0 := fun st' => run (A_zz52) N (codeAt Try.f55 [1, 1, 1, 1]) st' vacz
theorem vaxe (N : Nat) : vid (vakv N) = vdj := by kernel_rfl
theorem vbia (N : Nat) (p1 dual3 : Y2) (x4 : Int) : vhd N N (vamb N) p1 dual3 x4 = vakk N p1 dual3 x4 :=
  have h : vid (vakv N) = (vdj) := vaxe N
  ((vad (fun st => by kernel_rfl) (fun st => by kernel_rfl)).trans (vacr N (vakv N) (fun j st => (vamb N) (.exit j) st) N p1 dual3 x4)).trans (congrArg (fun k => vft N k N p1 dual3 x4) h)
theorem run0_zz52 (N : Nat) (x : (S_zz52).a.den) : runF (A_zz52) N Try.f55 S_zz52 x = (vare (vhd N N (vamb N)) x.1) := by kernel_rfl
theorem run_zz52 (N : Nat) (x : (S_zz52).a.den) : runF (A_zz52) N Try.f55 S_zz52 x = zz52 N x.1 := by
  refine (run0_zz52 N x).trans ?_
  rw [(funext fun p1 => (funext fun dual3 => (funext fun x4 => vbia N p1 dual3 x4)))]
  rfl
theorem fn_zz52 : FnOk Try.prog 55 := ⟨_, Try.func55, by kernel_rfl, by kernel_rfl⟩
theorem good_zz52 : Gx.Good Try.prog 55 S_zz52 := vaa Try.func55 (of_decide_eq_true (by kernel_rfl)) fun x r h => ⟨A_zz52, big, vac tabOk, vab (show SigsOk Try.prog [(104, S_zz49), (105, S_zz50), (106, S_zz51)] from ⟨⟨fn_zz49, good_zz49⟩, ⟨fn_zz50, good_zz50⟩, ⟨fn_zz51, good_zz51⟩, trivial⟩), (run_zz52 big x).trans h⟩
def vbhf (p_0 : Y2) : Z6 :=
  (zz50 big p_0).bind fun rq1 =>
  (zz51 big rq1.1 []).bind fun rq2 =>
  some (rq2.1, (()))
def zz53 (p_0 : Y2) : Z6 := vbhf p_0
def S_zz53 : Sig := { a := (.pair (.pair (.sl (.sl I)) .unit) .unit), md := [0], mf := [], m := .unit, r := I, rf := .i, f := fun x => zz53 x.1 }
def A_zz53 : Cfg := mkCfg tab [(105, S_zz50), (106, S_zz51)] []
theorem run_zz53 (N : Nat) (x : (S_zz53).a.den) : runF (A_zz53) N Try.f65 S_zz53 x = zz53 x.1 := by kernel_rfl
theorem fn_zz53 : FnOk Try.prog 65 := ⟨_, Try.func65, by kernel_rfl, by kernel_rfl⟩
theorem good_zz53 : Gx.Good Try.prog 65 S_zz53 := vaa Try.func65 (of_decide_eq_true (by kernel_rfl)) fun x r h => ⟨A_zz53, big, vac tabOk, vab (show SigsOk Try.prog [(105, S_zz50), (106, S_zz51)] from ⟨⟨fn_zz50, good_zz50⟩, ⟨fn_zz51, good_zz51⟩, trivial⟩), (run_zz53 big x).trans h⟩
def vbgd (p_0 : Y2) : Z6 :=
  (zz51 big p_0 []).bind fun rq1 =>
  some (rq1.1, (()))
def zz54 (p_0 : Y2) : Z6 := vbgd p_0
def S_zz54 : Sig := { a := (.pair (.pair (.sl (.sl I)) .unit) .unit), md := [0], mf := [], m := .unit, r := I, rf := .i, f := fun x => zz54 x.1 }
def A_zz54 : Cfg := mkCfg tab [(106, S_zz51)] []
theorem run_zz54 (N : Nat) (x : (S_zz54).a.den) : runF (A_zz54) N Try.f66 S_zz54 x = zz54 x.1 := by kernel_rfl
theorem fn_zz54 : FnOk Try.prog 66 := ⟨_, Try.func66, by kernel_rfl, by kernel_rfl⟩
theorem good_zz54 : Gx.Good Try.prog 66 S_zz54 := vaa Try.func66 (of_decide_eq_true (by kernel_rfl)) fun x r h => ⟨A_zz54, big, vac tabOk, vab (show SigsOk Try.prog [(106, S_zz51)] from ⟨⟨fn_zz51, good_zz51⟩, trivial⟩), (run_zz54 big x).trans h⟩
def vbeo (p_0 : Y2) (x_1 y_2 : Int) : Z6 :=
  (zz51 big p_0 [x_1, y_2]).bind fun rq1 =>
  some (rq1.1, (()))
def zz55 (p_0 : Y2) (x_1 y_2 : Int) : Z6 := vbeo p_0 x_1 y_2
def S_zz55 : Sig := { a := (.pair (.pair (.sl (.sl I)) .unit) (.pair I (.pair I .unit))), md := [0, 0, 0], mf := [], m := .unit, r := I, rf := .i, f := fun x => zz55 x.1 x.2.1 x.2.2.1 }
def A_zz55 : Cfg := mkCfg tab [(106, S_zz51)] []
theorem run_zz55 (N : Nat) (x : (S_zz55).a.den) : runF (A_zz55) N Try.f84 S_zz55 x = zz55 x.1 x.2.1 x.2.2.1 := by kernel_rfl
theorem fn_zz55 : FnOk Try.prog 84 := ⟨_, Try.func84, by kernel_rfl, by kernel_rfl⟩
theorem good_zz55 : Gx.Good Try.prog 84 S_zz55 := vaa Try.func84 (of_decide_eq_true (by kernel_rfl)) fun x r h => ⟨A_zz55, big, vac tabOk, vab (show SigsOk Try.prog [(106, S_zz51)] from ⟨⟨fn_zz51, good_zz51⟩, trivial⟩), (run_zz55 big x).trans h⟩
def vbfy (p_0 : Y2) (x_1 y_2 : Int) : Z6 :=
  (zz50 big p_0).bind fun rq1 =>
  (zz51 big rq1.1 [x_1, y_2]).bind fun rq2 =>
  some (rq2.1, (()))
def zz56 (p_0 : Y2) (x_1 y_2 : Int) : Z6 := vbfy p_0 x_1 y_2
def S_zz56 : Sig := { a := (.pair (.pair (.sl (.sl I)) .unit) (.pair I (.pair I .unit))), md := [0, 0, 0], mf := [], m := .unit, r := I, rf := .i, f := fun x => zz56 x.1 x.2.1 x.2.2.1 }
def A_zz56 : Cfg := mkCfg tab [(105, S_zz50), (106, S_zz51)] []
theorem run_zz56 (N : Nat) (x : (S_zz56).a.den) : runF (A_zz56) N Try.f85 S_zz56 x = zz56 x.1 x.2.1 x.2.2.1 := by kernel_rfl
theorem fn_zz56 : FnOk Try.prog 85 := ⟨_, Try.func85, by kernel_rfl, by kernel_rfl⟩
theorem good_zz56 : Gx.Good Try.prog 85 S_zz56 := vaa Try.func85 (of_decide_eq_true (by kernel_rfl)) fun x r h => ⟨A_zz56, big, vac tabOk, vab (show SigsOk Try.prog [(105, S_zz50), (106, S_zz51)] from ⟨⟨fn_zz50, good_zz50⟩, ⟨fn_zz51, good_zz51⟩, trivial⟩), (run_zz56 big x).trans h⟩
def vna (rec : Int → Int → Int → Y2 → Y4 → Int → Z5) (k : Y4 → Z5) (x1 y2 z3 : Int) (p4 : Y2) (out9 : Y4) (w10 : Int) : Z5 :=
  cond (decide (w10 < (p4.1.length : Int)))
  ((zz55 p4 y2 w10).bind fun rq1 =>
  cond (decide (rq1.1 = x1))
  ((zz56 p4 y2 w10).bind fun rq2 =>
  cond (decide (rq2.1 = z3))
  ((appI out9 [w10]).bind fun xq3 =>
  rec x1 y2 z3 p4 xq3 (IntKind.i64.wrap (w10 + (1 : Int))))
  (rec x1 y2 z3 p4 out9 (IntKind.i64.wrap (w10 + (1 : Int)))))
  (rec x1 y2 z3 p4 out9 (IntKind.i64.wrap (w10 + (1 : Int)))))
  (k out9)
def vfl (out9 : Y4) : Z5 :=
  some (out9, (()))
def vaul (L3 : Int → Int → Int → Y2 → Y4 → Int → Z5) (p_0 : Y2) (x_1 y_2 z_3 : Int) : Z5 :=
  L3 x_1 y_2 z_3 p_0 [] (0 : Int)
def voe (N : Nat) (k : Y4 → Z5) : Nat → Int → Int → Int → Y2 → Y4 → Int → Z5
  | 0, _, _, _, _, _, _ => none
  | m + 1, x1, y2, z3, p4, out9, w10 => vna (voe N k m) k x1 y2 z3 p4 out9 w10
def vaks (N : Nat) (x1 y2 z3 : Int) (p4 : Y2) (out9 : Y4) (w10 : Int) : Z5 := voe N (vfl) N x1 y2 z3 p4 out9 w10
def zz57 (N : Nat) (p_0 : Y2) (x_1 y_2 z_3 : Int) : Z5 := vaul (vaks N) p_0 x_1 y_2 z_3
def S_zz57 : Sig := { a := (.pair (.pair (.sl (.sl I)) .unit) (.pair I (.pair I (.pair I .unit)))), md := [0, 0, 0, 0], mf := [], m := .unit, r := (.sl I), rf := (.o .i), f := fun x => zz57 big x.1 x.2.1 x.2.2.1 x.2.2.2.1 }
def A_zz57 : Cfg := mkCfg tab [(84, S_zz55), (85, S_zz56)] [(6, [.drop, .as I .i, .as I .i, .as I .i, .as y1 (.o .i), .drop, .drop, .drop, .drop, .as (.sl I) (.o .i), .as I .i]), (15, [.drop, .drop, .drop, .drop, .drop, .drop, .drop, .drop, .drop, .as (.sl I) (.o .i)])]
noncomputable def vog (N n : Nat) (K : Ex → St → Z5) (x1 y2 z3 : Int) (p4 : Y2) (out9 : Y4) (w10 : Int) : Z5 := iter ((A_zz57).shape 6) (run (A_zz57) N (codeAt Try.f64 [1, 1, 0, 1, 0, 0])) n ([.u, .val I .i x1, .val I .i y2, .val I .i z3, .val y1 (.o .i) p4, .u, .u, .u, .u, .val (.sl I) (.o .i) out9, .val I .i w10] ++ List.replicate 27 .u) K
noncomputable abbrev vard : Ex → St → Z5 := finish (A_zz57) S_zz57 Try.f64.results.toList
noncomputable abbrev vsk (kX : St → Z5) : Y4 → Z5 := fun (out9 : Y4) => kX ([.u, .u, .u, .u, .u, .u, .u, .u, .u, .val (.sl I) (.o .i) out9] ++ List.replicate 28 .u)
noncomputable abbrev vyz (kX : St → Z5) (kO : Nat → St → Z5) : Ex → St → Z5 := exK vard 0 ((A_zz57).shape 15) kX kO
theorem vbbz (N m : Nat) (kX : St → Z5) (kO : Nat → St → Z5) (x1 y2 z3 : Int) (p4 : Y2) (out9 : Y4) (w10 : Int) : vog N (m + 1) (vyz kX kO) x1 y2 z3 p4 out9 w10 = vna (vog N m (vyz kX kO)) (vsk kX) x1 y2 z3 p4 out9 w10 := by kernel_rfl
theorem vacv (N : Nat) (kX : St → Z5) (kO : Nat → St → Z5) : ∀ (n : Nat) (x1 y2 z3 : Int) (p4 : Y2) (out9 : Y4) (w10 : Int), vog N n (vyz kX kO) x1 y2 z3 p4 out9 w10 = voe N (vsk kX) n x1 y2 z3 p4 out9 w10
  | 0, _, _, _, _, _, _ => rfl
  | m + 1, x1, y2, z3, p4, out9, w10 => by
    have hrec : vog N m (vyz kX kO) = (voe N (vsk kX) m) := (funext fun x1 => (funext fun y2 => (funext fun z3 => (funext fun p4 => (funext fun out9 => (funext fun w10 => vacv N kX kO m x1 y2 z3 p4 out9 w10))))))
    refine (vbbz N m kX kO x1 y2 z3 p4 out9 w10).trans ?_
    rw [hrec]
    rfl
noncomputable abbrev vaju (N : Nat) : Ex → St → Z5 := (blockK 0 (seqK ((A_zz57).shape 15) (gated ((A_zz57).shape 500007).isSome N (run (A_zz57) N (codeAt Try.f64 [1, 1, 1]))) vard))
noncomputable abbrev vagn (N : Nat) : St → Z5 := fun st' => run (A_zz57) N (codeAt Try.f64 [1, 1, 1]) st' vard
theorem vaww (N : Nat) (out9 : Y4) : vsk (vagn N) out9 = vfl out9 := by kernel_rfl
theorem vbja (N : Nat) (x1 y2 z3 : Int) (p4 : Y2) (out9 : Y4) (w10 : Int) : vog N N (vaju N) x1 y2 z3 p4 out9 w10 = vaks N x1 y2 z3 p4 out9 w10 :=
  have h : vsk (vagn N) = (vfl) := (funext fun out9 => vaww N out9)
  ((vad (fun st => by kernel_rfl) (fun st => by kernel_rfl)).trans (vacv N (vagn N) (fun j st => (vaju N) (.exit j) st) N x1 y2 z3 p4 out9 w10)).trans (congrArg (fun k => voe N k N x1 y2 z3 p4 out9 w10) h)
theorem run0_zz57 (N : Nat) (x : (S_zz57).a.den) : runF (A_zz57) N Try.f64 S_zz57 x = (vaul (vog N N (vaju N)) x.1 x.2.1 x.2.2.1 x.2.2.2.1) := by kernel_rfl
theorem run_zz57 (N : Nat) (x : (S_zz57).a.den) : runF (A_zz57) N Try.f64 S_zz57 x = zz57 N x.1 x.2.1 x.2.2.1 x.2.2.2.1 := by
  refine (run0_zz57 N x).trans ?_
  rw [(funext fun x1 => (funext fun y2 => (funext fun z3 => (funext fun p4 => (funext fun out9 => (funext fun w10 => vbja N x1 y2 z3 p4 out9 w10))))))]
  rfl
theorem fn_zz57 : FnOk Try.prog 64 := ⟨_, Try.func64, by kernel_rfl, by kernel_rfl⟩
theorem good_zz57 : Gx.Good Try.prog 64 S_zz57 := vaa Try.func64 (of_decide_eq_true (by kernel_rfl)) fun x r h => ⟨A_zz57, big, vac tabOk, vab (show SigsOk Try.prog [(84, S_zz55), (85, S_zz56)] from ⟨⟨fn_zz55, good_zz55⟩, ⟨fn_zz56, good_zz56⟩, trivial⟩), (run_zz57 big x).trans h⟩
def vow (rec : Int → Int → Y2 → Int → Z0) (k : Z0) (x1 y2 : Int) (p3 : Y2) (z7 : Int) : Z0 :=
  cond (decide (z7 < (p3.1.length : Int)))
  ((zz55 p3 z7 x1).bind fun rq1 =>
  (zz55 p3 z7 y2).bind fun rq2 =>
  (zz56 p3 rq1.1 rq2.1).bind fun rq3 =>
  cond (decide (rq3.1 ≠ z7))
  (some (false, (())))
  ((zz56 p3 z7 x1).bind fun rq4 =>
  (zz56 p3 z7 y2).bind fun rq5 =>
  (zz55 p3 rq4.1 rq5.1).bind fun rq6 =>
  cond (decide (rq6.1 ≠ z7))
  (some (false, (())))
  (rec x1 y2 p3 (IntKind.i64.wrap (z7 + (1 : Int))))))
  (k)
def vgo : Z0 :=
  some (true, (()))
def vasi (L2 : Int → Int → Y2 → Int → Z0) (p_0 : Y2) (x_1 y_2 : Int) : Z0 :=
  L2 x_1 y_2 p_0 (0 : Int)
def vod (N : Nat) (k : Z0) : Nat → Int → Int → Y2 → Int → Z0
  | 0, _, _, _, _ => none
  | m + 1, x1, y2, p3, z7 => vow (vod N k m) k x1 y2 p3 z7
def vamq (N : Nat) (x1 y2 : Int) (p3 : Y2) (z7 : Int) : Z0 := vod N (vgo) N x1 y2 p3 z7
def zz58 (N : Nat) (p_0 : Y2) (x_1 y_2 : Int) : Z0 := vasi (vamq N) p_0 x_1 y_2
def S_zz58 : Sig := { a := (.pair (.pair (.sl (.sl I)) .unit) (.pair I (.pair I .unit))), md := [0, 0, 0], mf := [], m := .unit, r := .bool, rf := .i, f := fun x => zz58 big x.1 x.2.1 x.2.2.1 }
def A_zz58 : Cfg := mkCfg tab [(84, S_zz55), (85, S_zz56)] [(4, [.drop, .as I .i, .as I .i, .as y1 (.o .i), .drop, .drop, .drop, .as I .i]), (13, [])]
noncomputable def vml (N n : Nat) (K : Ex → St → Z0) (x1 y2 : Int) (p3 : Y2) (z7 : Int) : Z0 := iter ((A_zz58).shape 4) (run (A_zz58) N (codeAt Try.f67 [1, 0, 1, 0, 0])) n ([.u, .val I .i x1, .val I .i y2, .val y1 (.o .i) p3, .u, .u, .u, .val I .i z7] ++ List.replicate 33 .u) K
noncomputable abbrev vaqc : Ex → St → Z0 := finish (A_zz58) S_zz58 Try.f67.results.toList
noncomputable abbrev vti (kX : St → Z0) : Z0 := kX ([] ++ List.replicate 41 .u)
noncomputable abbrev vya (kX : St → Z0) (kO : Nat → St → Z0) : Ex → St → Z0 := exK vaqc 0 ((A_zz58).shape 13) kX kO
theorem vbav (N m : Nat) (kX : St → Z0) (kO : Nat → St → Z0) (x1 y2 : Int) (p3 : Y2) (z7 : Int) : vml N (m + 1) (vya kX kO) x1 y2 p3 z7 = vow (vml N m (vya kX kO)) (vti kX) x1 y2 p3 z7 := by kernel_rfl
theorem vafa (N : Nat) (kX : St → Z0) (kO : Nat → St → Z0) : ∀ (n : Nat) (x1 y2 : Int) (p3 : Y2) (z7 : Int), vml N n (vya kX kO) x1 y2 p3 z7 = vod N (vti kX) n x1 y2 p3 z7
  | 0, _, _, _, _ => rfl
  | m + 1, x1, y2, p3, z7 => by
    have hrec : vml N m (vya kX kO) = (vod N (vti kX) m) := (funext fun x1 => (funext fun y2 => (funext fun p3 => (funext fun z7 => vafa N kX kO m x1 y2 p3 z7))))
    refine (vbav N m kX kO x1 y2 p3 z7).trans ?_
    rw [hrec]
    rfl
noncomputable abbrev vajr (N : Nat) : Ex → St → Z0 := (blockK 0 (seqK ((A_zz58).shape 13) (gated ((A_zz58).shape 500006).isSome N (run (A_zz58) N (codeAt Try.f67 [1, 1]))) vaqc))
noncomputable abbrev vaji (N : Nat) : St → Z0 := fun st' => run (A_zz58) N (codeAt Try.f67 [1, 1]) st' vaqc
theorem vawq (N : Nat) : vti (vaji N) = vgo := by kernel_rfl
theorem vbji (N : Nat) (x1 y2 : Int) (p3 : Y2) (z7 : Int) : vml N N (vajr N) x1 y2 p3 z7 = vamq N x1 y2 p3 z7 :=
  have h : vti (vaji N) = (vgo) := vawq N
  ((vad (fun st => by kernel_rfl) (fun st => by kernel_rfl)).trans (vafa N (vaji N) (fun j st => (vajr N) (.exit j) st) N x1 y2 p3 z7)).trans (congrArg (fun k => vod N k N x1 y2 p3 z7) h)
theorem run0_zz58 (N : Nat) (x : (S_zz58).a.den) : runF (A_zz58) N Try.f67 S_zz58 x = (vasi (vml N N (vajr N)) x.1 x.2.1 x.2.2.1) := by kernel_rfl
theorem run_zz58 (N : Nat) (x : (S_zz58).a.den) : runF (A_zz58) N Try.f67 S_zz58 x = zz58 N x.1 x.2.1 x.2.2.1 := by
  refine (run0_zz58 N x).trans ?_
  rw [(funext fun x1 => (funext fun y2 => (funext fun p3 => (funext fun z7 => vbji N x1 y2 p3 z7))))]
  rfl
theorem fn_zz58 : FnOk Try.prog 67 := ⟨_, Try.func67, by kernel_rfl, by kernel_rfl⟩
theorem good_zz58 : Gx.Good Try.prog 67 S_zz58 := vaa Try.func67 (of_decide_eq_true (by kernel_rfl)) fun x r h => ⟨A_zz58, big, vac tabOk, vab (show SigsOk Try.prog [(84, S_zz55), (85, S_zz56)] from ⟨⟨fn_zz55, good_zz55⟩, ⟨fn_zz56, good_zz56⟩, trivial⟩), (run_zz58 big x).trans h⟩
def vll (rec : Y2 → Y4 → Int → Y4 → Bool → Int → Z7) (k : Y2 → Y4 → Int → Bool → Z7) (p1 : Y2) (out4 : Y4) (x5 : Int) (own6 : Y4) (central7 : Bool) (i8 : Int) : Z7 :=
  cond (decide (i8 < (own6.length : Int)))
  (cond central7
  (rec p1 out4 x5 own6 true (IntKind.i64.wrap (i8 + (1 : Int))))
  ((atI own6 i8).bind fun _ =>
  (own6[i8.toNat]?).bind fun xq5 =>
  (zz58 big p1 x5 xq5).bind fun rq6 =>
  rec p1 out4 x5 own6 rq6.1 (IntKind.i64.wrap (i8 + (1 : Int)))))
  (k p1 out4 x5 central7)
def vgr (rec : Y2 → Y4 → Int → Z7) (p1 : Y2) (out4 : Y4) (x5 : Int) (central7 : Bool) : Z7 :=
  cond central7
  ((appI out4 [x5]).bind fun xq7 =>
  rec p1 xq7 (IntKind.i64.wrap (x5 + (1 : Int))))
  (rec p1 out4 (IntKind.i64.wrap (x5 + (1 : Int))))
def vqb (L9 : Y2 → Y4 → Int → Y4 → Bool → Int → Z7) (k : Y4 → Z7) (p1 : Y2) (out4 : Y4) (x5 : Int) : Z7 :=
  cond (decide (x5 < (p1.1.length : Int)))
  ((zz53 p1).bind fun rq2 =>
  (zz54 p1).bind fun rq3 =>
  (zz57 big p1 rq2.1 x5 rq3.1).bind fun rq4 =>
  L9 p1 out4 x5 rq4.1 false (0 : Int))
  (k out4)
def vcz (out4 : Y4) : Z7 :=
  some ((out4, true, ()), (()))
def vatd (L5 : Y2 → Y4 → Int → Z7) (p_0 : Y2) : Z7 :=
  (zz52 big p_0).bind fun rq1 =>
  cond (!rq1.1)
  (some (([], false, ()), (())))
  (L5 p_0 [] (0 : Int))
def vob (N : Nat) (k : Y2 → Y4 → Int → Bool → Z7) : Nat → Y2 → Y4 → Int → Y4 → Bool → Int → Z7
  | 0, _, _, _, _, _, _ => none
  | m + 1, p1, out4, x5, own6, central7, i8 => vll (vob N k m) k p1 out4 x5 own6 central7 i8
def vuo (N : Nat) (rec : Y2 → Y4 → Int → Z7) (k : Y4 → Z7) (p1 : Y2) (out4 : Y4) (x5 : Int) (own6 : Y4) (central7 : Bool) (i8 : Int) : Z7 := vob N (vgr rec) N p1 out4 x5 own6 central7 i8
def vhp (N : Nat) (k : Y4 → Z7) : Nat → Y2 → Y4 → Int → Z7
  | 0, _, _, _ => none
  | m + 1, p1, out4, x5 => vqb (vuo N (vhp N k m) k) k p1 out4 x5
def vaho (N : Nat) (p1 : Y2) (out4 : Y4) (x5 : Int) : Z7 := vhp N (vcz) N p1 out4 x5
def zz59 (N : Nat) (p_0 : Y2) : Z7 := vatd (vaho N) p_0
def S_zz59 : Sig := { a := (.pair (.pair (.sl (.sl I)) .unit) .unit), md := [0], mf := [], m := .unit, r := (.tup (.pair (.sl I) (.pair .bool .unit))), rf := (.p (.o .i) .i), f := fun x => zz59 big x.1 }
def A_zz59 : Cfg := mkCfg tab [(55, S_zz52), (65, S_zz53), (66, S_zz54), (64, S_zz57), (67, S_zz58)] [(10, [.drop, .as y1 (.o .i), .drop, .drop, .as (.sl I) (.o .i), .as I .i]), (18, [.drop, .as y1 (.o .i), .drop, .drop, .as (.sl I) (.o .i), .as I .i, .as (.sl I) (.o .i), .as .bool .i, .as I .i]), (29, [.drop, .drop, .drop, .drop, .as (.sl I) (.o .i)]), (25, [.drop, .as y1 (.o .i), .drop, .drop, .as (.sl I) (.o .i), .as I .i, .drop, .as .bool .i])]
noncomputable def vgz (N n : Nat) (K : Ex → St → Z7) (p1 : Y2) (out4 : Y4) (x5 : Int) : Z7 := iter ((A_zz59).shape 10) (run (A_zz59) N (codeAt Try.f21 [1, 1, 1, 0, 1, 0, 0])) n ([.u, .val y1 (.o .i) p1, .u, .u, .val (.sl I) (.o .i) out4, .val I .i x5] ++ List.replicate 44 .u) K
noncomputable def vma (N n : Nat) (K : Ex → St → Z7) (p1 : Y2) (out4 : Y4) (x5 : Int) (own6 : Y4) (central7 : Bool) (i8 : Int) : Z7 := iter ((A_zz59).shape 18) (run (A_zz59) N (codeAt Try.f21 [1, 1, 1, 0, 1, 0, 0, 1, 0, 0, 1, 0, 1, 0, 0])) n ([.u, .val y1 (.o .i) p1, .u, .u, .val (.sl I) (.o .i) out4, .val I .i x5, .val (.sl I) (.o .i) own6, .val .bool .i central7, .val I .i i8] ++ List.replicate 41 .u) K
noncomputable abbrev vafx : Ex → St → Z7 := finish (A_zz59) S_zz59 Try.f21.results.toList
noncomputable abbrev vis (kX : St → Z7) : Y4 → Z7 := fun (out4 : Y4) => kX ([.u, .u, .u, .u, .val (.sl I) (.o .i) out4] ++ List.replicate 45 .u)
noncomputable abbrev vhv (kX : St → Z7) (kO : Nat → St → Z7) : Ex → St → Z7 := exK vafx 0 ((A_zz59).shape 29) kX kO
noncomputable abbrev vts (kX : St → Z7) : Y2 → Y4 → Int → Bool → Z7 := fun (p1 : Y2) (out4 : Y4) (x5 : Int) (central7 : Bool) => kX ([.u, .val y1 (.o .i) p1, .u, .u, .val (.sl I) (.o .i) out4, .val I .i x5, .u, .val .bool .i central7] ++ List.replicate 42 .u)
noncomputable abbrev vzk (kX : St → Z7) (kO : Nat → St → Z7) : Ex → St → Z7 := exK vafx 2 ((A_zz59).shape 25) kX kO
theorem vbaz (N m : Nat) (kX : St → Z7) (kO : Nat → St → Z7) (p1 : Y2) (out4 : Y4) (x5 : Int) (own6 : Y4) (central7 : Bool) (i8 : Int) : vma N (m + 1) (vzk kX kO) p1 out4 x5 own6 central7 i8 = vll (vma N m (vzk kX kO)) (vts kX) p1 out4 x5 own6 central7 i8 := by kernel_rfl
theorem vafz (N : Nat) (kX : St → Z7) (kO : Nat → St → Z7) : ∀ (n : Nat) (p1 : Y2) (out4 : Y4) (x5 : Int) (own6 : Y4) (central7 : Bool) (i8 : Int), vma N n (vzk kX kO) p1 out4 x5 own6 central7 i8 = vob N (vts kX) n p1 out4 x5 own6 central7 i8
  | 0, _, _, _, _, _, _ => rfl
  | m + 1, p1, out4, x5, own6, central7, i8 => by
    have hrec : vma N m (vzk kX kO) = (vob N (vts kX) m) := (funext fun p1 => (funext fun out4 => (funext fun x5 => (funext fun own6 => (funext fun central7 => (funext fun i8 => vafz N kX kO m p1 out4 x5 own6 central7 i8))))))
    refine (vbaz N m kX kO p1 out4 x5 own6 central7 i8).trans ?_
    rw [hrec]
    rfl
noncomputable abbrev vamw (N m : Nat) (kX : St → Z7) (kO : Nat → St → Z7) : Ex → St → Z7 := (blockK 2 (seqK ((A_zz59).shape 25) (gated ((A_zz59).shape 500012).isSome N (run (A_zz59) N (codeAt Try.f21 [1, 1, 1, 0, 1, 0, 0, 1, 0, 0, 1, 1]))) (blockK 1 (seqK ((A_zz59).shape 13) (gated ((A_zz59).shape 500006).isSome N (run (A_zz59) N (codeAt Try.f21 [1, 1, 1, 0, 1, 0, 0, 1, 1]))) (iterK ((A_zz59).shape 10) (run (A_zz59) N (codeAt Try.f21 [1, 1, 1, 0, 1, 0, 0])) m (vhv kX kO))))))
noncomputable abbrev vajd (N m : Nat) (kX : St → Z7) (kO : Nat → St → Z7) : St → Z7 := fun st' => run (A_zz59) N (codeAt Try.f21 [1, 1, 1, 0, 1, 0, 0, 1, 0, 0, 1, 1]) st' (blockK 1 (seqK ((A_zz59).shape 13) (gated ((A_zz59).shape 500006).isSome N (run (A_zz59) N (codeAt Try.f21 [1, 1, 1, 0, 1, 0, 0, 1, 1]))) (iterK ((A_zz59).shape 10) (run (A_zz59) N (codeAt Try.f21 [1, 1, 1, 0, 1, 0, 0])) m (vhv kX kO))))
theorem vavo (N m : Nat) (kX : St → Z7) (kO : Nat → St → Z7) (p1 : Y2) (out4 : Y4) (x5 : Int) (central7 : Bool) : vts (vajd N m kX kO) p1 out4 x5 central7 = vgr (vgz N m (vhv kX kO)) p1 out4 x5 central7 := by kernel_rfl
theorem vbie (N m : Nat) (kX : St → Z7) (kO : Nat → St → Z7) (recF : Y2 → Y4 → Int → Z7) (hrec : vgz N m (vhv kX kO) = recF) (p1 : Y2) (out4 : Y4) (x5 : Int) (own6 : Y4) (central7 : Bool) (i8 : Int) : vma N N (vamw N m kX kO) p1 out4 x5 own6 central7 i8 = vuo N recF (vis kX) p1 out4 x5 own6 central7 i8 :=
  have h : vts (vajd N m kX kO) = (vgr recF) := (funext fun p1 => (funext fun out4 => (funext fun x5 => (funext fun central7 => (vavo N m kX kO p1 out4 x5 central7).trans (by rw [hrec])))))
  ((vad (fun st => by kernel_rfl) (fun st => by kernel_rfl)).trans (vafz N (vajd N m kX kO) (fun j st => (vamw N m kX kO) (.exit j) st) N p1 out4 x5 own6 central7 i8)).trans (congrArg (fun k => vob N k N p1 out4 x5 own6 central7 i8) h)
theorem vbbp (N m : Nat) (kX : St → Z7) (kO : Nat → St → Z7) (p1 : Y2) (out4 : Y4) (x5 : Int) : vgz N (m + 1) (vhv kX kO) p1 out4 x5 = vqb (vma N N (vamw N m kX kO)) (vis kX) p1 out4 x5 := by kernel_rfl
theorem vaef (N : Nat) (kX : St → Z7) (kO : Nat → St → Z7) : ∀ (n : Nat) (p1 : Y2) (out4 : Y4) (x5 : Int), vgz N n (vhv kX kO) p1 out4 x5 = vhp N (vis kX) n p1 out4 x5
  | 0, _, _, _ => rfl
  | m + 1, p1, out4, x5 => by
    have hrec : vgz N m (vhv kX kO) = (vhp N (vis kX) m) := (funext fun p1 => (funext fun out4 => (funext fun x5 => vaef N kX kO m p1 out4 x5)))
    refine (vbbp N m kX kO p1 out4 x5).trans ?_
    rw [(funext fun p1 => (funext fun out4 => (funext fun x5 => (funext fun own6 => (funext fun central7 => (funext fun i8 => vbie N m kX kO (vhp N (vis kX) m) hrec p1 out4 x5 own6 central7 i8))))))]
    rfl
noncomputable abbrev valy (N : Nat) : Ex → St → Z7 := (blockK 0 (seqK ((A_zz59).shape 29) (gated ((A_zz59).shape 500014).isSome N (run (A_zz59) N (codeAt Try.f21 [1, 1, 1, 1]))) vafx))
noncomputable abbrev vanc (N : Nat) : St → Z7 := fun st' => run (A_zz59) N (codeAt Try.f21 [1, 1, 1, 1]) st' vafx
theorem vawl (N : Nat) (out4 : Y4) : vis (vanc N) out4 = vcz out4 := by kernel_rfl
theorem vblr (N : Nat) (p1 : Y2) (out4 : Y4) (x5 : Int) : vgz N N (valy N) p1 out4 x5 = vaho N p1 out4 x5 :=
  have h : vis (vanc N) = (vcz) := (funext fun out4 => vawl N out4)
  ((vad (fun st => by kernel_rfl) (fun st => by kernel_rfl)).trans (vaef N (vanc N) (fun j st => (valy N) (.exit j) st) N p1 out4 x5)).trans (congrArg (fun k => vhp N k N p1 out4 x5) h)
theorem run0_zz59 (N : Nat) (x : (S_zz59).a.den) : runF (A_zz59) N Try.f21 S_zz59 x = (vatd (vgz N N (valy N)) x.1) := by kernel_rfl
theorem run_zz59 (N : Nat) (x : (S_zz59).a.den) : runF (A_zz59) N Try.f21 S_zz59 x = zz59 N x.1 := by
  refine (run0_zz59 N x).trans ?_
  rw [(funext fun p1 => (funext fun out4 => (funext fun x5 => vblr N p1 out4 x5)))]
  rfl
theorem fn_zz59 : FnOk Try.prog 21 := ⟨_, Try.func21, by kernel_rfl, by kernel_rfl⟩
theorem good_zz59 : Gx.Good Try.prog 21 S_zz59 := vaa Try.func21 (of_decide_eq_true (by kernel_rfl)) fun x r h => ⟨A_zz59, big, vac tabOk, vab (show SigsOk Try.prog [(55, S_zz52), (65, S_zz53), (66, S_zz54), (64, S_zz57), (67, S_zz58)] from ⟨⟨fn_zz52, good_zz52⟩, ⟨fn_zz53, good_zz53⟩, ⟨fn_zz54, good_zz54⟩, ⟨fn_zz57, good_zz57⟩, ⟨fn_zz58, good_zz58⟩, trivial⟩), (run_zz59 big x).trans h⟩
def vos (rec : Y4 → Y4 → Int → Z0) (k : Z0) (a0 b1 : Y4) (i5 : Int) : Z0 :=
  cond (decide (i5 < (a0.length : Int)))
  ((atI a0 i5).bind fun xq1 =>
  (atI b1 i5).bind fun xq2 =>
  cond (decide (xq1 ≠ xq2))
  (some (false, (())))
  (rec a0 b1 (IntKind.i64.wrap (i5 + (1 : Int)))))
  (k)
def via : Z0 :=
  some (true, (()))
def vaqd (L4 : Y4 → Y4 → Int → Z0) (a_0 b_1 : Y4) : Z0 :=
  cond (decide ((a_0.length : Int) ≠ (b_1.length : Int)))
  (some (false, (())))
  (L4 a_0 b_1 (0 : Int))
def vpo (N : Nat) (k : Z0) : Nat → Y4 → Y4 → Int → Z0
  | 0, _, _, _ => none
  | m + 1, a0, b1, i5 => vos (vpo N k m) k a0 b1 i5
def vahd (N : Nat) (a0 b1 : Y4) (i5 : Int) : Z0 := vpo N (via) N a0 b1 i5
def zz60 (N : Nat) (a_0 b_1 : Y4) : Z0 := vaqd (vahd N) a_0 b_1
def S_zz60 : Sig := { a := (.pair (.sl I) (.pair (.sl I) .unit)), md := [0, 0], mf := [], m := .unit, r := .bool, rf := .i, f := fun x => zz60 big x.1 x.2.1 }
def A_zz60 : Cfg := mkCfg tab [] [(8, [.as (.sl I) .i, .as (.sl I) .i, .drop, .drop, .drop, .as I .i]), (17, [])]
noncomputable def vmq (N n : Nat) (K : Ex → St → Z0) (a0 b1 : Y4) (i5 : Int) : Z0 := iter ((A_zz60).shape 8) (run (A_zz60) N (codeAt Try.f22 [1, 1, 0, 1, 0, 0])) n ([.val (.sl I) .i a0, .val (.sl I) .i b1, .u, .u, .u, .val I .i i5] ++ List.replicate 20 .u) K
noncomputable abbrev vauw : Ex → St → Z0 := finish (A_zz60) S_zz60 Try.f22.results.toList
noncomputable abbrev vun (kX : St → Z0) : Z0 := kX ([] ++ List.replicate 26 .u)
noncomputable abbrev vyw (kX : St → Z0) (kO : Nat → St → Z0) : Ex → St → Z0 := exK vauw 0 ((A_zz60).shape 17) kX kO
theorem vbct (N m : Nat) (kX : St → Z0) (kO : Nat → St → Z0) (a0 b1 : Y4) (i5 : Int) : vmq N (m + 1) (vyw kX kO) a0 b1 i5 = vos (vmq N m (vyw kX kO)) (vun kX) a0 b1 i5 := by kernel_rfl
theorem vada (N : Nat) (kX : St → Z0) (kO : Nat → St → Z0) : ∀ (n : Nat) (a0 b1 : Y4) (i5 : Int), vmq N n (vyw kX kO) a0 b1 i5 = vpo N (vun kX) n a0 b1 i5
  | 0, _, _, _ => rfl
  | m + 1, a0, b1, i5 => by
    have hrec : vmq N m (vyw kX kO) = (vpo N (vun kX) m) := (funext fun a0 => (funext fun b1 => (funext fun i5 => vada N kX kO m a0 b1 i5)))
    refine (vbct N m kX kO a0 b1 i5).trans ?_
    rw [hrec]
    rfl
noncomputable abbrev vaiu (N : Nat) : Ex → St → Z0 := (blockK 0 (seqK ((A_zz60).shape 17) (gated ((A_zz60).shape 500008).isSome N (run (A_zz60) N (codeAt Try.f22 [1, 1, 1]))) vauw))
noncomputable abbrev valb (N : Nat) : St → Z0 := fun st' => run (A_zz60) N (codeAt Try.f22 [1, 1, 1]) st' vauw
theorem vavr (N : Nat) : vun (valb N) = via := by kernel_rfl
theorem vble (N : Nat) (a0 b1 : Y4) (i5 : Int) : vmq N N (vaiu N) a0 b1 i5 = vahd N a0 b1 i5 :=
  have h : vun (valb N) = (via) := vavr N
  ((vad (fun st => by kernel_rfl) (fun st => by kernel_rfl)).trans (vada N (valb N) (fun j st => (vaiu N) (.exit j) st) N a0 b1 i5)).trans (congrArg (fun k => vpo N k N a0 b1 i5) h)
theorem run0_zz60 (N : Nat) (x : (S_zz60).a.den) : runF (A_zz60) N Try.f22 S_zz60 x = (vaqd (vmq N N (vaiu N)) x.1 x.2.1) := by kernel_rfl
theorem run_zz60 (N : Nat) (x : (S_zz60).a.den) : runF (A_zz60) N Try.f22 S_zz60 x = zz60 N x.1 x.2.1 := by
  refine (run0_zz60 N x).trans ?_
  rw [(funext fun a0 => (funext fun b1 => (funext fun i5 => vble N a0 b1 i5)))]
  rfl
theorem fn_zz60 : FnOk Try.prog 22 := ⟨_, Try.func22, by kernel_rfl, by kernel_rfl⟩
theorem good_zz60 : Gx.Good Try.prog 22 S_zz60 := vaa Try.func22 (of_decide_eq_true (by kernel_rfl)) fun x r h => ⟨A_zz60, big, vac tabOk, vab (show SigsOk Try.prog [] from trivial), (run_zz60 big x).trans h⟩
def vbem (x_0 : Int) (p_1 : Y1) : Z0 :=
  (zz38 p_1 x_0).bind fun rq1 =>
  some (decide ((rq1.1.length : Int) = (0 : Int)), (()))
def zz61 (x_0 : Int) (p_1 : Y1) : Z0 := vbem x_0 p_1
def S_zz61 : Sig := { a := (.pair I (.pair (.ptr (.opt (.pair (.sl (.sl .bool)) (.pair (.sl (.sl I)) (.pair (.sl (.sl I)) .unit))))) .unit)), md := [0, 0], mf := [], m := .unit, r := .bool, rf := .i, f := fun x => zz61 x.1 x.2.1 }
def A_zz61 : Cfg := mkCfg tab [(73, S_zz38)] []
theorem run_zz61 (N : Nat) (x : (S_zz61).a.den) : runF (A_zz61) N Try.f113 S_zz61 x = zz61 x.1 x.2.1 := by kernel_rfl
theorem fn_zz61 : FnOk Try.prog 113 := ⟨_, Try.func113, by kernel_rfl, by kernel_rfl⟩
theorem good_zz61 : Gx.Good Try.prog 113 S_zz61 := vaa Try.func113 (of_decide_eq_true (by kernel_rfl)) fun x r h => ⟨A_zz61, big, vac tabOk, vab (show SigsOk Try.prog [(73, S_zz38)] from ⟨⟨fn_zz38, good_zz38⟩, trivial⟩), (run_zz61 big x).trans h⟩
def vmj (rec : Z16 → Y4 → Int → Int → Z5) (k : Y4 → Z5) (so1 : Z16) (list5 : Y4) (t9 t10 : Int) : Z5 :=
  cond (decide (t10 < t9))
  ((zz61 t10 so1.1).bind fun rq1 =>
  cond rq1.1
  ((appI list5 [t10]).bind fun xq2 =>
  rec so1 xq2 t9 (IntKind.i64.wrap (t10 + (1 : Int))))
  (rec so1 list5 t9 (IntKind.i64.wrap (t10 + (1 : Int)))))
  (k list5)
def vgp (list5 : Y4) : Z5 :=
  some (list5, (()))
def vaqv (L3 : Z16 → Y4 → Int → Int → Z5) (o_0 : Y5) (so_1 : Z16) : Z5 :=
  L3 so_1 [] (o_0.length : Int) (0 : Int)
def vmf (N : Nat) (k : Y4 → Z5) : Nat → Z16 → Y4 → Int → Int → Z5
  | 0, _, _, _, _ => none
  | m + 1, so1, list5, t9, t10 => vmj (vmf N k m) k so1 list5 t9 t10
def vakg (N : Nat) (so1 : Z16) (list5 : Y4) (t9 t10 : Int) : Z5 := vmf N (vgp) N so1 list5 t9 t10
def zz62 (N : Nat) (o_0 : Y5) (so_1 : Z16) : Z5 := vaqv (vakg N) o_0 so_1
def S_zz62 : Sig := { a := (.pair (.sl (.sl .bool)) (.pair (.clo 113 0 (.pair (.ptr (.opt (.pair (.sl (.sl .bool)) (.pair (.sl (.sl I)) (.pair (.sl (.sl I)) .unit))))) .unit)) .unit)), md := [0, 0], mf := [], m := .unit, r := (.sl I), rf := (.o .i), f := fun x => zz62 big x.1 x.2.1 }
def A_zz62 : Cfg := mkCfg tab [(113, S_zz61)] [(6, [.drop, .as (.clo 113 0 (.pair (.ptr (.opt (.pair (.sl (.sl .bool)) (.pair (.sl (.sl I)) (.pair (.sl (.sl I)) .unit))))) .unit)) .i, .drop, .drop, .drop, .as (.sl I) (.o .i), .drop, .drop, .drop, .as I .i, .as I .i]), (17, [.drop, .drop, .drop, .drop, .drop, .as (.sl I) (.o .i)])]
noncomputable def vpx (N n : Nat) (K : Ex → St → Z5) (so1 : Z16) (list5 : Y4) (t9 t10 : Int) : Z5 := iter ((A_zz62).shape 6) (run (A_zz62) N (codeAt Try.f62 [1, 1, 0, 1, 0, 0])) n ([.u, .val (.clo 113 0 (.pair (.ptr (.opt (.pair (.sl (.sl .bool)) (.pair (.sl (.sl I)) (.pair (.sl (.sl I)) .unit))))) .unit)) .i so1, .u, .u, .u, .val (.sl I) (.o .i) list5, .u, .u, .u, .val I .i t9, .val I .i t10] ++ List.replicate 11 .u) K
noncomputable abbrev varf : Ex → St → Z5 := finish (A_zz62) S_zz62 Try.f62.results.toList
noncomputable abbrev vul (kX : St → Z5) : Y4 → Z5 := fun (list5 : Y4) => kX ([.u, .u, .u, .u, .u, .val (.sl I) (.o .i) list5] ++ List.replicate 16 .u)
noncomputable abbrev vyx (kX : St → Z5) (kO : Nat → St → Z5) : Ex → St → Z5 := exK varf 0 ((A_zz62).shape 17) kX kO
theorem vbag (N m : Nat) (kX : St → Z5) (kO : Nat → St → Z5) (so1 : Z16) (list5 : Y4) (t9 t10 : Int) : vpx N (m + 1) (vyx kX kO) so1 list5 t9 t10 = vmj (vpx N m (vyx kX kO)) (vul kX) so1 list5 t9 t10 := by kernel_rfl
theorem vaei (N : Nat) (kX : St → Z5) (kO : Nat → St → Z5) : ∀ (n : Nat) (so1 : Z16) (list5 : Y4) (t9 t10 : Int), vpx N n (vyx kX kO) so1 list5 t9 t10 = vmf N (vul kX) n so1 list5 t9 t10
  | 0, _, _, _, _ => rfl
  | m + 1, so1, list5, t9, t10 => by
    have hrec : vpx N m (vyx kX kO) = (vmf N (vul kX) m) := (funext fun so1 => (funext fun list5 => (funext fun t9 => (funext fun t10 => vaei N kX kO m so1 list5 t9 t10))))
    refine (vbag N m kX kO so1 list5 t9 t10).trans ?_
    rw [hrec]
    rfl
noncomputable abbrev vamz (N : Nat) : Ex → St → Z5 := (blockK 0 (seqK ((A_zz62).shape 17) (gated ((A_zz62).shape 500008).isSome N (run (A_zz62) N (codeAt Try.f62 [1, 1, 1]))) varf))
noncomputable abbrev valc (N : Nat) : St → Z5 := fun st' => run (A_zz62) N (codeAt Try.f62 [1, 1, 1]) st' varf
theorem vayc (N : Nat) (list5 : Y4) : vul (valc N) list5 = vgp list5 := by kernel_rfl
theorem vbkv (N : Nat) (so1 : Z16) (list5 : Y4) (t9 t10 : Int) : vpx N N (vamz N) so1 list5 t9 t10 = vakg N so1 list5 t9 t10 :=
  have h : vul (valc N) = (vgp) := (funext fun list5 => vayc N list5)
  ((vad (fun st => by kernel_rfl) (fun st => by kernel_rfl)).trans (vaei N (valc N) (fun j st => (vamz N) (.exit j) st) N so1 list5 t9 t10)).trans (congrArg (fun k => vmf N k N so1 list5 t9 t10) h)
theorem run0_zz62 (N : Nat) (x : (S_zz62).a.den) : runF (A_zz62) N Try.f62 S_zz62 x = (vaqv (vpx N N (vamz N)) x.1 x.2.1) := by kernel_rfl
theorem run_zz62 (N : Nat) (x : (S_zz62).a.den) : runF (A_zz62) N Try.f62 S_zz62 x = zz62 N x.1 x.2.1 := by
  refine (run0_zz62 N x).trans ?_
  rw [(funext fun so1 => (funext fun list5 => (funext fun t9 => (funext fun t10 => vbkv N so1 list5 t9 t10))))]
  rfl
theorem fn_zz62 : FnOk Try.prog 62 := ⟨_, Try.func62, by kernel_rfl, by kernel_rfl⟩
theorem good_zz62 : Gx.Good Try.prog 62 S_zz62 := vaa Try.func62 (of_decide_eq_true (by kernel_rfl)) fun x r h => ⟨A_zz62, big, vac tabOk, vab (show SigsOk Try.prog [(113, S_zz61)] from ⟨⟨fn_zz61, good_zz61⟩, trivial⟩), (run_zz62 big x).trans h⟩
def vbht (o_0 : Y5) (so_1 : Z16) : Z0 :=
  (zz62 big o_0 so_1).bind fun rq1 =>
  some (decide ((rq1.1.length : Int) = (0 : Int)), (()))
def zz63 (o_0 : Y5) (so_1 : Z16) : Z0 := vbht o_0 so_1
def S_zz63 : Sig := { a := (.pair (.sl (.sl .bool)) (.pair (.clo 113 0 (.pair (.ptr (.opt (.pair (.sl (.sl .bool)) (.pair (.sl (.sl I)) (.pair (.sl (.sl I)) .unit))))) .unit)) .unit)), md := [0, 0], mf := [], m := .unit, r := .bool, rf := .i, f := fun x => zz63 x.1 x.2.1 }
def A_zz63 : Cfg := mkCfg tab [(62, S_zz62)] []
theorem run_zz63 (N : Nat) (x : (S_zz63).a.den) : runF (A_zz63) N Try.f71 S_zz63 x = zz63 x.1 x.2.1 := by kernel_rfl
theorem fn_zz63 : FnOk Try.prog 71 := ⟨_, Try.func71, by kernel_rfl, by kernel_rfl⟩
theorem good_zz63 : Gx.Good Try.prog 71 S_zz63 := vaa Try.func71 (of_decide_eq_true (by kernel_rfl)) fun x r h => ⟨A_zz63, big, vac tabOk, vab (show SigsOk Try.prog [(62, S_zz62)] from ⟨⟨fn_zz62, good_zz62⟩, trivial⟩), (run_zz63 big x).trans h⟩
def vbhv (l_0 : Y1) : Z0 :=
  (l_0).bind fun xq1 =>
  (zz63 xq1.1 (l_0, ())).bind fun rq2 =>
  some (rq2.1, (()))
def zz64 (l_0 : Y1) : Z0 := vbhv l_0
def S_zz64 : Sig := { a := (.pair (.opt (.pair (.sl (.sl .bool)) (.pair (.sl (.sl I)) (.pair (.sl (.sl I)) .unit)))) .unit), md := [0], mf := [], m := .unit, r := .bool, rf := .i, f := fun x => zz64 x.1 }
def A_zz64 : Cfg := mkCfg tab [(71, S_zz63)] [(3, [.drop, .as (.ptr (.opt (.pair (.sl (.sl .bool)) (.pair (.sl (.sl I)) (.pair (.sl (.sl I)) .unit))))) .i])]
theorem run_zz64 (N : Nat) (x : (S_zz64).a.den) : runF (A_zz64) N Try.f68 S_zz64 x = zz64 x.1 := by kernel_rfl
theorem fn_zz64 : FnOk Try.prog 68 := ⟨_, Try.func68, by kernel_rfl, by kernel_rfl⟩
theorem good_zz64 : Gx.Good Try.prog 68 S_zz64 := vaa Try.func68 (of_decide_eq_true (by kernel_rfl)) fun x r h => ⟨A_zz64, big, vac tabOk, vab (show SigsOk Try.prog [(71, S_zz63)] from ⟨⟨fn_zz63, good_zz63⟩, trivial⟩), (run_zz64 big x).trans h⟩
def vasm (p_0 : Y2) : Z2 :=
  (zz32 p_0).bind fun rq1 =>
  cond rq1.1.2.1
  ((zz64 rq1.1.1).bind fun rq2 =>
  some ((rq2.1, rq1.1.2.1, ()), (())))
  (some ((false, rq1.1.2.1, ()), (())))
def zz65 (p_0 : Y2) : Z2 := vasm p_0
def S_zz65 : Sig := { a := (.pair (.pair (.sl (.sl I)) .unit) .unit), md := [0], mf := [], m := .unit, r := (.tup (.pair .bool (.pair .bool .unit))), rf := .i, f := fun x => zz65 x.1 }
def A_zz65 : Cfg := mkCfg tab [(51, S_zz32), (68, S_zz64)] []
theorem run_zz65 (N : Nat) (x : (S_zz65).a.den) : runF (A_zz65) N Try.f23 S_zz65 x = zz65 x.1 := by kernel_rfl
theorem fn_zz65 : FnOk Try.prog 23 := ⟨_, Try.func23, by kernel_rfl, by kernel_rfl⟩
theorem good_zz65 : Gx.Good Try.prog 23 S_zz65 := vaa Try.func23 (of_decide_eq_true (by kernel_rfl)) fun x r h => ⟨A_zz65, big, vac tabOk, vab (show SigsOk Try.prog [(51, S_zz32), (68, S_zz64)] from ⟨⟨fn_zz32, good_zz32⟩, ⟨fn_zz64, good_zz64⟩, trivial⟩), (run_zz65 big x).trans h⟩
def vni (rec : Y2 → Y4 → Int → Z5) (k : Y4 → Z5) (p1 : Y2) (out3 : Y4) (x4 : Int) : Z5 :=
  cond (decide (x4 < (p1.1.length : Int)))
  ((zz53 p1).bind fun rq1 =>
  (zz54 p1).bind fun rq2 =>
  (zz57 big p1 rq1.1 x4 rq2.1).bind fun rq3 =>
  (appI out3 [(rq3.1.length : Int)]).bind fun xq4 =>
  rec p1 xq4 (IntKind.i64.wrap (x4 + (1 : Int))))
  (k out3)
def vjx (out3 : Y4) : Z5 :=
  some (out3, (()))
def vaud (L3 : Y2 → Y4 → Int → Z5) (p_0 : Y2) : Z5 :=
  L3 p_0 [] (0 : Int)
def vmt (N : Nat) (k : Y4 → Z5) : Nat → Y2 → Y4 → Int → Z5
  | 0, _, _, _ => none
  | m + 1, p1, out3, x4 => vni (vmt N k m) k p1 out3 x4
def valn (N : Nat) (p1 : Y2) (out3 : Y4) (x4 : Int) : Z5 := vmt N (vjx) N p1 out3 x4
def zz66 (N : Nat) (p_0 : Y2) : Z5 := vaud (valn N) p_0
def S_zz66 : Sig := { a := (.pair (.pair (.sl (.sl I)) .unit) .unit), md := [0], mf := [], m := .unit, r := (.sl I), rf := (.o .i), f := fun x => zz66 big x.1 }
def A_zz66 : Cfg := mkCfg tab [(65, S_zz53), (66, S_zz54), (64, S_zz57)] [(6, [.drop, .as y1 (.o .i), .drop, .as (.sl I) (.o .i), .as I .i]), (13, [.drop, .drop, .drop, .as (.sl I) (.o .i)])]
noncomputable def vpu (N n : Nat) (K : Ex → St → Z5) (p1 : Y2) (out3 : Y4) (x4 : Int) : Z5 := iter ((A_zz66).shape 6) (run (A_zz66) N (codeAt Try.f70 [1, 1, 0, 1, 0, 0])) n ([.u, .val y1 (.o .i) p1, .u, .val (.sl I) (.o .i) out3, .val I .i x4] ++ List.replicate 20 .u) K
noncomputable abbrev vapo : Ex → St → Z5 := finish (A_zz66) S_zz66 Try.f70.results.toList
noncomputable abbrev vsm (kX : St → Z5) : Y4 → Z5 := fun (out3 : Y4) => kX ([.u, .u, .u, .val (.sl I) (.o .i) out3] ++ List.replicate 21 .u)
noncomputable abbrev vzt (kX : St → Z5) (kO : Nat → St → Z5) : Ex → St → Z5 := exK vapo 0 ((A_zz66).shape 13) kX kO
theorem vbcx (N m : Nat) (kX : St → Z5) (kO : Nat → St → Z5) (p1 : Y2) (out3 : Y4) (x4 : Int) : vpu N (m + 1) (vzt kX kO) p1 out3 x4 = vni (vpu N m (vzt kX kO)) (vsm kX) p1 out3 x4 := by kernel_rfl
theorem vaco (N : Nat) (kX : St → Z5) (kO : Nat → St → Z5) : ∀ (n : Nat) (p1 : Y2) (out3 : Y4) (x4 : Int), vpu N n (vzt kX kO) p1 out3 x4 = vmt N (vsm kX) n p1 out3 x4
  | 0, _, _, _ => rfl
  | m + 1, p1, out3, x4 => by
    have hrec : vpu N m (vzt kX kO) = (vmt N (vsm kX) m) := (funext fun p1 => (funext fun out3 => (funext fun x4 => vaco N kX kO m p1 out3 x4)))
    refine (vbcx N m kX kO p1 out3 x4).trans ?_
    rw [hrec]
    rfl
noncomputable abbrev vahf (N : Nat) : Ex → St → Z5 := (blockK 0 (seqK ((A_zz66).shape 13) (gated ((A_zz66).shape 500006).isSome N (run (A_zz66) N (codeAt Try.f70 [1, 1, 1]))) vapo))
noncomputable abbrev vahl (N : Nat) : St → Z5 := fun st' => run (A_zz66) N (codeAt Try.f70 [1, 1, 1]) st' vapo
theorem vaxx (N : Nat) (out3 : Y4) : vsm (vahl N) out3 = vjx out3 := by kernel_rfl
theorem vbkr (N : Nat) (p1 : Y2) (out3 : Y4) (x4 : Int) : vpu N N (vahf N) p1 out3 x4 = valn N p1 out3 x4 :=
  have h : vsm (vahl N) = (vjx) := (funext fun out3 => vaxx N out3)
  ((vad (fun st => by kernel_rfl) (fun st => by kernel_rfl)).trans (vaco N (vahl N) (fun j st => (vahf N) (.exit j) st) N p1 out3 x4)).trans (congrArg (fun k => vmt N k N p1 out3 x4) h)
theorem run0_zz66 (N : Nat) (x : (S_zz66).a.den) : runF (A_zz66) N Try.f70 S_zz66 x = (vaud (vpu N N (vahf N)) x.1) := by kernel_rfl
theorem run_zz66 (N : Nat) (x : (S_zz66).a.den) : runF (A_zz66) N Try.f70 S_zz66 x = zz66 N x.1 := by
  refine (run0_zz66 N x).trans ?_
  rw [(funext fun p1 => (funext fun out3 => (funext fun x4 => vbkr N p1 out3 x4)))]
  rfl
theorem fn_zz66 : FnOk Try.prog 70 := ⟨_, Try.func70, by kernel_rfl, by kernel_rfl⟩
theorem good_zz66 : Gx.Good Try.prog 70 S_zz66 := vaa Try.func70 (of_decide_eq_true (by kernel_rfl)) fun x r h => ⟨A_zz66, big, vac tabOk, vab (show SigsOk Try.prog [(65, S_zz53), (66, S_zz54), (64, S_zz57)] from ⟨⟨fn_zz53, good_zz53⟩, ⟨fn_zz54, good_zz54⟩, ⟨fn_zz57, good_zz57⟩, trivial⟩), (run_zz66 big x).trans h⟩
def vasy (p_0 : Y2) : Z2 :=
  (zz52 big p_0).bind fun rq1 =>
  cond (!rq1.1)
  (some ((false, false, ()), (())))
  ((zz66 big p_0).bind fun rq2 =>
  (zz14 big rq2.1 (0 : Int)).bind fun rq3 =>
  some ((!rq3.1, true, ()), (())))
def zz67 (p_0 : Y2) : Z2 := vasy p_0
def S_zz67 : Sig := { a := (.pair (.pair (.sl (.sl I)) .unit) .unit), md := [0], mf := [], m := .unit, r := (.tup (.pair .bool (.pair .bool .unit))), rf := .i, f := fun x => zz67 x.1 }
def A_zz67 : Cfg := mkCfg tab [(55, S_zz52), (70, S_zz66), (69, S_zz14)] []
theorem run_zz67 (N : Nat) (x : (S_zz67).a.den) : runF (A_zz67) N Try.f24 S_zz67 x = zz67 x.1 := by kernel_rfl
theorem fn_zz67 : FnOk Try.prog 24 := ⟨_, Try.func24, by kernel_rfl, by kernel_rfl⟩
theorem good_zz67 : Gx.Good Try.prog 24 S_zz67 := vaa Try.func24 (of_decide_eq_true (by kernel_rfl)) fun x r h => ⟨A_zz67, big, vac tabOk, vab (show SigsOk Try.prog [(55, S_zz52), (70, S_zz66), (69, S_zz14)] from ⟨⟨fn_zz52, good_zz52⟩, ⟨fn_zz66, good_zz66⟩, ⟨fn_zz14, good_zz14⟩, trivial⟩), (run_zz67 big x).trans h⟩
def vbgb (x_0 : Int) (p_1 : Y1) : Z0 :=
  (zz38 p_1 x_0).bind fun rq1 =>
  some (decide ((rq1.1.length : Int) ≠ (1 : Int)), (()))
def zz68 (x_0 : Int) (p_1 : Y1) : Z0 := vbgb x_0 p_1
def S_zz68 : Sig := { a := (.pair I (.pair (.ptr (.opt (.pair (.sl (.sl .bool)) (.pair (.sl (.sl I)) (.pair (.sl (.sl I)) .unit))))) .unit)), md := [0, 0], mf := [], m := .unit, r := .bool, rf := .i, f := fun x => zz68 x.1 x.2.1 }
def A_zz68 : Cfg := mkCfg tab [(73, S_zz38)] []
theorem run_zz68 (N : Nat) (x : (S_zz68).a.den) : runF (A_zz68) N Try.f72 S_zz68 x = zz68 x.1 x.2.1 := by kernel_rfl
theorem fn_zz68 : FnOk Try.prog 72 := ⟨_, Try.func72, by kernel_rfl, by kernel_rfl⟩
theorem good_zz68 : Gx.Good Try.prog 72 S_zz68 := vaa Try.func72 (of_decide_eq_true (by kernel_rfl)) fun x r h => ⟨A_zz68, big, vac tabOk, vab (show SigsOk Try.prog [(73, S_zz38)] from ⟨⟨fn_zz38, good_zz38⟩, trivial⟩), (run_zz68 big x).trans h⟩
def vqa (rec : Z16 → Y4 → Int → Int → Z5) (k : Y4 → Z5) (so1 : Z16) (list5 : Y4) (t9 t10 : Int) : Z5 :=
  cond (decide (t10 < t9))
  ((zz68 t10 so1.1).bind fun rq1 =>
  cond rq1.1
  ((appI list5 [t10]).bind fun xq2 =>
  rec so1 xq2 t9 (IntKind.i64.wrap (t10 + (1 : Int))))
  (rec so1 list5 t9 (IntKind.i64.wrap (t10 + (1 : Int)))))
  (k list5)
def vjg (list5 : Y4) : Z5 :=
  some (list5, (()))
def vapj (L3 : Z16 → Y4 → Int → Int → Z5) (o_0 : Y5) (so_1 : Z16) : Z5 :=
  L3 so_1 [] (o_0.length : Int) (0 : Int)
def vpn (N : Nat) (k : Y4 → Z5) : Nat → Z16 → Y4 → Int → Int → Z5
  | 0, _, _, _, _ => none
  | m + 1, so1, list5, t9, t10 => vqa (vpn N k m) k so1 list5 t9 t10
def vahy (N : Nat) (so1 : Z16) (list5 : Y4) (t9 t10 : Int) : Z5 := vpn N (vjg) N so1 list5 t9 t10
def zz69 (N : Nat) (o_0 : Y5) (so_1 : Z16) : Z5 := vapj (vahy N) o_0 so_1
def S_zz69 : Sig := { a := (.pair (.sl (.sl .bool)) (.pair (.clo 72 0 (.pair (.ptr (.opt (.pair (.sl (.sl .bool)) (.pair (.sl (.sl I)) (.pair (.sl (.sl I)) .unit))))) .unit)) .unit)), md := [0, 0], mf := [], m := .unit, r := (.sl I), rf := (.o .i), f := fun x => zz69 big x.1 x.2.1 }
def A_zz69 : Cfg := mkCfg tab [(72, S_zz68)] [(6, [.drop, .as (.clo 72 0 (.pair (.ptr (.opt (.pair (.sl (.sl .bool)) (.pair (.sl (.sl I)) (.pair (.sl (.sl I)) .unit))))) .unit)) .i, .drop, .drop, .drop, .as (.sl I) (.o .i), .drop, .drop, .drop, .as I .i, .as I .i]), (17, [.drop, .drop, .drop, .drop, .drop, .as (.sl I) (.o .i)])]
noncomputable def voh (N n : Nat) (K : Ex → St → Z5) (so1 : Z16) (list5 : Y4) (t9 t10 : Int) : Z5 := iter ((A_zz69).shape 6) (run (A_zz69) N (codeAt Try.f62 [1, 1, 0, 1, 0, 0])) n ([.u, .val (.clo 72 0 (.pair (.ptr (.opt (.pair (.sl (.sl .bool)) (.pair (.sl (.sl I)) (.pair (.sl (.sl I)) .unit))))) .unit)) .i so1, .u, .u, .u, .val (.sl I) (.o .i) list5, .u, .u, .u, .val I .i t9, .val I .i t10] ++ List.replicate 11 .u) K
noncomputable abbrev vauc : Ex → St → Z5 := finish (A_zz69) S_zz69 Try.f62.results.toList
noncomputable abbrev vte (kX : St → Z5) : Y4 → Z5 := fun (list5 : Y4) => kX ([.u, .u, .u, .u, .u, .val (.sl I) (.o .i) list5] ++ List.replicate 16 .u)
noncomputable abbrev vyc (kX : St → Z5) (kO : Nat → St → Z5) : Ex → St → Z5 := exK vauc 0 ((A_zz69).shape 17) kX kO
theorem vbae (N m : Nat) (kX : St → Z5) (kO : Nat → St → Z5) (so1 : Z16) (list5 : Y4) (t9 t10 : Int) : voh N (m + 1) (vyc kX kO) so1 list5 t9 t10 = vqa (voh N m (vyc kX kO)) (vte kX) so1 list5 t9 t10 := by kernel_rfl
theorem vafn (N : Nat) (kX : St → Z5) (kO : Nat → St → Z5) : ∀ (n : Nat) (so1 : Z16) (list5 : Y4) (t9 t10 : Int), voh N n (vyc kX kO) so1 list5 t9 t10 = vpn N (vte kX) n so1 list5 t9 t10
  | 0, _, _, _, _ => rfl
  | m + 1, so1, list5, t9, t10 => by
    have hrec : voh N m (vyc kX kO) = (vpn N (vte kX) m) := (funext fun so1 => (funext fun list5 => (funext fun t9 => (funext fun t10 => vafn N kX kO m so1 list5 t9 t10))))
    refine (vbae N m kX kO so1 list5 t9 t10).trans ?_
    rw [hrec]
    rfl
noncomputable abbrev vamy (N : Nat) : Ex → St → Z5 := (blockK 0 (seqK ((A_zz69).shape 17) (gated ((A_zz69).shape 500008).isSome N (run (A_zz69) N (codeAt Try.f62 [1, 1, 1]))) vauc))
noncomputable abbrev vagj (N : Nat) : St → Z5 := fun st' => run (A_zz69) N (codeAt Try.f62 [1, 1, 1]) st' vauc
theorem vaxh (N : Nat) (list5 : Y4) : vte (vagj N) list5 = vjg list5 := by kernel_rfl
theorem vbld (N : Nat) (so1 : Z16) (list5 : Y4) (t9 t10 : Int) : voh N N (vamy N) so1 list5 t9 t10 = vahy N so1 list5 t9 t10 :=
  have h : vte (vagj N) = (vjg) := (funext fun list5 => vaxh N list5)
  ((vad (fun st => by kernel_rfl) (fun st => by kernel_rfl)).trans (vafn N (vagj N) (fun j st => (vamy N) (.exit j) st) N so1 list5 t9 t10)).trans (congrArg (fun k => vpn N k N so1 list5 t9 t10) h)
theorem run0_zz69 (N : Nat) (x : (S_zz69).a.den) : runF (A_zz69) N Try.f62 S_zz69 x = (vapj (voh N N (vamy N)) x.1 x.2.1) := by kernel_rfl
theorem run_zz69 (N : Nat) (x : (S_zz69).a.den) : runF (A_zz69) N Try.f62 S_zz69 x = zz69 N x.1 x.2.1 := by
  refine (run0_zz69 N x).trans ?_
  rw [(funext fun so1 => (funext fun list5 => (funext fun t9 => (funext fun t10 => vbld N so1 list5 t9 t10))))]
  rfl
theorem fn_zz69 : FnOk Try.prog 62 := ⟨_, Try.func62, by kernel_rfl, by kernel_rfl⟩
theorem good_zz69 : Gx.Good Try.prog 62 S_zz69 := vaa Try.func62 (of_decide_eq_true (by kernel_rfl)) fun x r h => ⟨A_zz69, big, vac tabOk, vab (show SigsOk Try.prog [(72, S_zz68)] from ⟨⟨fn_zz68, good_zz68⟩, trivial⟩), (run_zz69 big x).trans h⟩
def vbgq (o_0 : Y5) (so_1 : Z16) : Z0 :=
  (zz69 big o_0 so_1).bind fun rq1 =>
  some (decide ((rq1.1.length : Int) = (0 : Int)), (()))
def zz70 (o_0 : Y5) (so_1 : Z16) : Z0 := vbgq o_0 so_1
def S_zz70 : Sig := { a := (.pair (.sl (.sl .bool)) (.pair (.clo 72 0 (.pair (.ptr (.opt (.pair (.sl (.sl .bool)) (.pair (.sl (.sl I)) (.pair (.sl (.sl I)) .unit))))) .unit)) .unit)), md := [0, 0], mf := [], m := .unit, r := .bool, rf := .i, f := fun x => zz70 x.1 x.2.1 }
def A_zz70 : Cfg := mkCfg tab [(62, S_zz69)] []
theorem run_zz70 (N : Nat) (x : (S_zz70).a.den) : runF (A_zz70) N Try.f71 S_zz70 x = zz70 x.1 x.2.1 := by kernel_rfl
theorem fn_zz70 : FnOk Try.prog 71 := ⟨_, Try.func71, by kernel_rfl, by kernel_rfl⟩
theorem good_zz70 : Gx.Good Try.prog 71 S_zz70 := vaa Try.func71 (of_decide_eq_true (by kernel_rfl)) fun x r h => ⟨A_zz70, big, vac tabOk, vab (show SigsOk Try.prog [(62, S_zz69)] from ⟨⟨fn_zz69, good_zz69⟩, trivial⟩), (run_zz70 big x).trans h⟩
def vaqg (p_0 : Y2) : Z2 :=
  (zz32 p_0).bind fun rq1 =>
  cond rq1.1.2.1
  ((rq1.1.1).bind fun xq2 =>
  (zz70 xq2.1 (rq1.1.1, ())).bind fun rq3 =>
  some ((rq3.1, rq1.1.2.1, ()), (())))
  (some ((false, rq1.1.2.1, ()), (())))
def zz71 (p_0 : Y2) : Z2 := vaqg p_0
def S_zz71 : Sig := { a := (.pair (.pair (.sl (.sl I)) .unit) .unit), md := [0], mf := [], m := .unit, r := (.tup (.pair .bool (.pair .bool .unit))), rf := .i, f := fun x => zz71 x.1 }
def A_zz71 : Cfg := mkCfg tab [(51, S_zz32), (71, S_zz70)] [(5, [.drop, .drop, .drop, .drop, .as (.ptr (.opt (.pair (.sl (.sl .bool)) (.pair (.sl (.sl I)) (.pair (.sl (.sl I)) .unit))))) .i, .as .bool .i])]
theorem run_zz71 (N : Nat) (x : (S_zz71).a.den) : runF (A_zz71) N Try.f25 S_zz71 x = zz71 x.1 := by kernel_rfl
theorem fn_zz71 : FnOk Try.prog 25 := ⟨_, Try.func25, by kernel_rfl, by kernel_rfl⟩
theorem good_zz71 : Gx.Good Try.prog 25 S_zz71 := vaa Try.func25 (of_decide_eq_true (by kernel_rfl)) fun x r h => ⟨A_zz71, big, vac tabOk, vab (show SigsOk Try.prog [(51, S_zz32), (71, S_zz70)] from ⟨⟨fn_zz32, good_zz32⟩, ⟨fn_zz70, good_zz70⟩, trivial⟩), (run_zz71 big x).trans h⟩
def vnu (rec : Y4 → Int → Z2) (k : Z2) (counts4 : Y4) (i5 : Int) : Z2 :=
  cond (decide (i5 < (counts4.length : Int)))
  ((atI counts4 i5).bind fun _ =>
  (counts4[i5.toNat]?).bind fun xq3 =>
  cond (decide (xq3 ≠ (1 : Int)))
  (some ((false, true, ()), (())))
  (rec counts4 (IntKind.i64.wrap (i5 + (1 : Int)))))
  (k)
def vgw : Z2 :=
  some ((true, true, ()), (()))
def vaev (L5 : Y4 → Int → Z2) (p_0 : Y2) : Z2 :=
  (zz52 big p_0).bind fun rq1 =>
  cond (!rq1.1)
  (some ((false, false, ()), (())))
  ((zz66 big p_0).bind fun rq2 =>
  L5 rq2.1 (0 : Int))
def vly (N : Nat) (k : Z2) : Nat → Y4 → Int → Z2
  | 0, _, _ => none
  | m + 1, counts4, i5 => vnu (vly N k m) k counts4 i5
def vaic (N : Nat) (counts4 : Y4) (i5 : Int) : Z2 := vly N (vgw) N counts4 i5
def zz72 (N : Nat) (p_0 : Y2) : Z2 := vaev (vaic N) p_0
def S_zz72 : Sig := { a := (.pair (.pair (.sl (.sl I)) .unit) .unit), md := [0], mf := [], m := .unit, r := (.tup (.pair .bool (.pair .bool .unit))), rf := .i, f := fun x => zz72 big x.1 }
def A_zz72 : Cfg := mkCfg tab [(55, S_zz52), (70, S_zz66)] [(10, [.drop, .drop, .drop, .drop, .as (.sl I) (.o .i), .as I .i]), (19, [])]
noncomputable def vnj (N n : Nat) (K : Ex → St → Z2) (counts4 : Y4) (i5 : Int) : Z2 := iter ((A_zz72).shape 10) (run (A_zz72) N (codeAt Try.f26 [1, 1, 1, 0, 1, 0, 0])) n ([.u, .u, .u, .u, .val (.sl I) (.o .i) counts4, .val I .i i5] ++ List.replicate 16 .u) K
noncomputable abbrev vate : Ex → St → Z2 := finish (A_zz72) S_zz72 Try.f26.results.toList
noncomputable abbrev vuc (kX : St → Z2) : Z2 := kX ([] ++ List.replicate 22 .u)
noncomputable abbrev vzz (kX : St → Z2) (kO : Nat → St → Z2) : Ex → St → Z2 := exK vate 0 ((A_zz72).shape 19) kX kO
theorem vbdq (N m : Nat) (kX : St → Z2) (kO : Nat → St → Z2) (counts4 : Y4) (i5 : Int) : vnj N (m + 1) (vzz kX kO) counts4 i5 = vnu (vnj N m (vzz kX kO)) (vuc kX) counts4 i5 := by kernel_rfl
theorem vaeb (N : Nat) (kX : St → Z2) (kO : Nat → St → Z2) : ∀ (n : Nat) (counts4 : Y4) (i5 : Int), vnj N n (vzz kX kO) counts4 i5 = vly N (vuc kX) n counts4 i5
  | 0, _, _ => rfl
  | m + 1, counts4, i5 => by
    have hrec : vnj N m (vzz kX kO) = (vly N (vuc kX) m) := (funext fun counts4 => (funext fun i5 => vaeb N kX kO m counts4 i5))
    refine (vbdq N m kX kO counts4 i5).trans ?_
    rw [hrec]
    rfl
noncomputable abbrev vagm (N : Nat) : Ex → St → Z2 := (blockK 0 (seqK ((A_zz72).shape 19) (gated ((A_zz72).shape 500009).isSome N (run (A_zz72) N (codeAt Try.f26 [1, 1, 1, 1]))) vate))
noncomputable abbrev vaki (N : Nat) : St → Z2 := fun st' => run (A_zz72) N (codeAt Try.f26 [1, 1, 1, 1]) st' vate
theorem vavj (N : Nat) : vuc (vaki N) = vgw := by kernel_rfl
theorem vblb (N : Nat) (counts4 : Y4) (i5 : Int) : vnj N N (vagm N) counts4 i5 = vaic N counts4 i5 :=
  have h : vuc (vaki N) = (vgw) := vavj N
  ((vad (fun st => by kernel_rfl) (fun st => by kernel_rfl)).trans (vaeb N (vaki N) (fun j st => (vagm N) (.exit j) st) N counts4 i5)).trans (congrArg (fun k => vly N k N counts4 i5) h)
theorem run0_zz72 (N : Nat) (x : (S_zz72).a.den) : runF (A_zz72) N Try.f26 S_zz72 x = (vaev (vnj N N (vagm N)) x.1) := by kernel_rfl
theorem run_zz72 (N : Nat) (x : (S_zz72).a.den) : runF (A_zz72) N Try.f26 S_zz72 x = zz72 N x.1 := by
  refine (run0_zz72 N x).trans ?_
  rw [(funext fun counts4 => (funext fun i5 => vblb N counts4 i5))]
  rfl
theorem fn_zz72 : FnOk Try.prog 26 := ⟨_, Try.func26, by kernel_rfl, by kernel_rfl⟩
theorem good_zz72 : Gx.Good Try.prog 26 S_zz72 := vaa Try.func26 (of_decide_eq_true (by kernel_rfl)) fun x r h => ⟨A_zz72, big, vac tabOk, vab (show SigsOk Try.prog [(55, S_zz52), (70, S_zz66)] from ⟨⟨fn_zz52, good_zz52⟩, ⟨fn_zz66, good_zz66⟩, trivial⟩), (run_zz72 big x).trans h⟩
def vbfm (y_0 : Int) (p_1 : Y1) (p_2 p_3 : Int) : Z0 :=
  (p_1).bind fun xq1 =>
  (atI xq1.1 p_2).bind fun xq2 =>
  (atI xq2 y_0).bind fun xq3 =>
  cond xq3
  ((p_1).bind fun xq4 =>
  (atI xq4.1 y_0).bind fun xq5 =>
  (atI xq5 p_3).bind fun xq6 =>
  cond xq6
  ((zz37 p_1 p_2 y_0 p_3).bind fun rq7 =>
  some (decide ((rq7.1.length : Int) = (0 : Int)), (())))
  (some (false, (()))))
  (some (false, (())))
def zz73 (y_0 : Int) (p_1 : Y1) (p_2 p_3 : Int) : Z0 := vbfm y_0 p_1 p_2 p_3
def S_zz73 : Sig := { a := (.pair I (.pair (.ptr (.opt (.pair (.sl (.sl .bool)) (.pair (.sl (.sl I)) (.pair (.sl (.sl I)) .unit))))) (.pair (.ptr I) (.pair (.ptr I) .unit)))), md := [0, 0, 0, 0], mf := [], m := .unit, r := .bool, rf := .i, f := fun x => zz73 x.1 x.2.1 x.2.2.1 x.2.2.2.1 }
def A_zz73 : Cfg := mkCfg tab [(77, S_zz37)] []
theorem run_zz73 (N : Nat) (x : (S_zz73).a.den) : runF (A_zz73) N Try.f76 S_zz73 x = zz73 x.1 x.2.1 x.2.2.1 x.2.2.2.1 := by kernel_rfl
theorem fn_zz73 : FnOk Try.prog 76 := ⟨_, Try.func76, by kernel_rfl, by kernel_rfl⟩
theorem good_zz73 : Gx.Good Try.prog 76 S_zz73 := vaa Try.func76 (of_decide_eq_true (by kernel_rfl)) fun x r h => ⟨A_zz73, big, vac tabOk, vab (show SigsOk Try.prog [(77, S_zz37)] from ⟨⟨fn_zz37, good_zz37⟩, trivial⟩), (run_zz73 big x).trans h⟩
def vpb (rec : (Y1 × Z1) → Y4 → Int → Int → Z5) (k : Y4 → Z5) (so1 : (Y1 × Z1)) (list5 : Y4) (t9 t10 : Int) : Z5 :=
  cond (decide (t10 < t9))
  ((zz73 t10 so1.1 so1.2.1 so1.2.2.1).bind fun rq1 =>
  cond rq1.1
  ((appI list5 [t10]).bind fun xq2 =>
  rec so1 xq2 t9 (IntKind.i64.wrap (t10 + (1 : Int))))
  (rec so1 list5 t9 (IntKind.i64.wrap (t10 + (1 : Int)))))
  (k list5)
def vht (list5 : Y4) : Z5 :=
  some (list5, (()))
def vatu (L3 : (Y1 × Z1) → Y4 → Int → Int → Z5) (o_0 : Y5) (so_1 : (Y1 × Z1)) : Z5 :=
  L3 so_1 [] (o_0.length : Int) (0 : Int)
def vnl (N : Nat) (k : Y4 → Z5) : Nat → (Y1 × Z1) → Y4 → Int → Int → Z5
  | 0, _, _, _, _ => none
  | m + 1, so1, list5, t9, t10 => vpb (vnl N k m) k so1 list5 t9 t10
def vakq (N : Nat) (so1 : (Y1 × Z1)) (list5 : Y4) (t9 t10 : Int) : Z5 := vnl N (vht) N so1 list5 t9 t10
def zz74 (N : Nat) (o_0 : Y5) (so_1 : (Y1 × Z1)) : Z5 := vatu (vakq N) o_0 so_1
def S_zz74 : Sig := { a := (.pair (.sl (.sl .bool)) (.pair (.clo 76 0 (.pair (.ptr (.opt (.pair (.sl (.sl .bool)) (.pair (.sl (.sl I)) (.pair (.sl (.sl I)) .unit))))) (.pair (.ptr I) (.pair (.ptr I) .unit)))) .unit)), md := [0, 0], mf := [], m := .unit, r := (.sl I), rf := (.o .i), f := fun x => zz74 big x.1 x.2.1 }
def A_zz74 : Cfg := mkCfg tab [(76, S_zz73)] [(6, [.drop, .as (.clo 76 0 (.pair (.ptr (.opt (.pair (.sl (.sl .bool)) (.pair (.sl (.sl I)) (.pair (.sl (.sl I)) .unit))))) (.pair (.ptr I) (.pair (.ptr I) .unit)))) .i, .drop, .drop, .drop, .as (.sl I) (.o .i), .drop, .drop, .drop, .as I .i, .as I .i]), (17, [.drop, .drop, .drop, .drop, .drop, .as (.sl I) (.o .i)])]
noncomputable def vqk (N n : Nat) (K : Ex → St → Z5) (so1 : (Y1 × Z1)) (list5 : Y4) (t9 t10 : Int) : Z5 := iter ((A_zz74).shape 6) (run (A_zz74) N (codeAt Try.f62 [1, 1, 0, 1, 0, 0])) n ([.u, .val (.clo 76 0 (.pair (.ptr (.opt (.pair (.sl (.sl .bool)) (.pair (.sl (.sl I)) (.pair (.sl (.sl I)) .unit))))) (.pair (.ptr I) (.pair (.ptr I) .unit)))) .i so1, .u, .u, .u, .val (.sl I) (.o .i) list5, .u, .u, .u, .val I .i t9, .val I .i t10] ++ List.replicate 11 .u) K
noncomputable abbrev vauh : Ex → St → Z5 := finish (A_zz74) S_zz74 Try.f62.results.toList
noncomputable abbrev vto (kX : St → Z5) : Y4 → Z5 := fun (list5 : Y4) => kX ([.u, .u, .u, .u, .u, .val (.sl I) (.o .i) list5] ++ List.replicate 16 .u)
noncomputable abbrev vyt (kX : St → Z5) (kO : Nat → St → Z5) : Ex → St → Z5 := exK vauh 0 ((A_zz74).shape 17) kX kO
theorem vbcc (N m : Nat) (kX : St → Z5) (kO : Nat → St → Z5) (so1 : (Y1 × Z1)) (list5 : Y4) (t9 t10 : Int) : vqk N (m + 1) (vyt kX kO) so1 list5 t9 t10 = vpb (vqk N m (vyt kX kO)) (vto kX) so1 list5 t9 t10 := by kernel_rfl
theorem vacw (N : Nat) (kX : St → Z5) (kO : Nat → St → Z5) : ∀ (n : Nat) (so1 : (Y1 × Z1)) (list5 : Y4) (t9 t10 : Int), vqk N n (vyt kX kO) so1 list5 t9 t10 = vnl N (vto kX) n so1 list5 t9 t10
  | 0, _, _, _, _ => rfl
  | m + 1, so1, list5, t9, t10 => by
    have hrec : vqk N m (vyt kX kO) = (vnl N (vto kX) m) := (funext fun so1 => (funext fun list5 => (funext fun t9 => (funext fun t10 => vacw N kX kO m so1 list5 t9 t10))))
    refine (vbcc N m kX kO so1 list5 t9 t10).trans ?_
    rw [hrec]
    rfl
noncomputable abbrev vake (N : Nat) : Ex → St → Z5 := (blockK 0 (seqK ((A_zz74).shape 17) (gated ((A_zz74).shape 500008).isSome N (run (A_zz74) N (codeAt Try.f62 [1, 1, 1]))) vauh))
noncomputable abbrev vahe (N : Nat) : St → Z5 := fun st' => run (A_zz74) N (codeAt Try.f62 [1, 1, 1]) st' vauh
theorem vayp (N : Nat) (list5 : Y4) : vto (vahe N) list5 = vht list5 := by kernel_rfl
theorem vbju (N : Nat) (so1 : (Y1 × Z1)) (list5 : Y4) (t9 t10 : Int) : vqk N N (vake N) so1 list5 t9 t10 = vakq N so1 list5 t9 t10 :=
  have h : vto (vahe N) = (vht) := (funext fun list5 => vayp N list5)
  ((vad (fun st => by kernel_rfl) (fun st => by kernel_rfl)).trans (vacw N (vahe N) (fun j st => (vake N) (.exit j) st) N so1 list5 t9 t10)).trans (congrArg (fun k => vnl N k N so1 list5 t9 t10) h)
theorem run0_zz74 (N : Nat) (x : (S_zz74).a.den) : runF (A_zz74) N Try.f62 S_zz74 x = (vatu (vqk N N (vake N)) x.1 x.2.1) := by kernel_rfl
theorem run_zz74 (N : Nat) (x : (S_zz74).a.den) : runF (A_zz74) N Try.f62 S_zz74 x = zz74 N x.1 x.2.1 := by
  refine (run0_zz74 N x).trans ?_
  rw [(funext fun so1 => (funext fun list5 => (funext fun t9 => (funext fun t10 => vbju N so1 list5 t9 t10))))]
  rfl
theorem fn_zz74 : FnOk Try.prog 62 := ⟨_, Try.func62, by kernel_rfl, by kernel_rfl⟩
theorem good_zz74 : Gx.Good Try.prog 62 S_zz74 := vaa Try.func62 (of_decide_eq_true (by kernel_rfl)) fun x r h => ⟨A_zz74, big, vac tabOk, vab (show SigsOk Try.prog [(76, S_zz73)] from ⟨⟨fn_zz73, good_zz73⟩, trivial⟩), (run_zz74 big x).trans h⟩
def vbgu (o_0 : Y5) (so_1 : (Y1 × Z1)) : Z0 :=
  (zz74 big o_0 so_1).bind fun rq1 =>
  some (decide ((rq1.1.length : Int) = (0 : Int)), (()))
def zz75 (o_0 : Y5) (so_1 : (Y1 × Z1)) : Z0 := vbgu o_0 so_1
def S_zz75 : Sig := { a := (.pair (.sl (.sl .bool)) (.pair (.clo 76 0 (.pair (.ptr (.opt (.pair (.sl (.sl .bool)) (.pair (.sl (.sl I)) (.pair (.sl (.sl I)) .unit))))) (.pair (.ptr I) (.pair (.ptr I) .unit)))) .unit)), md := [0, 0], mf := [], m := .unit, r := .bool, rf := .i, f := fun x => zz75 x.1 x.2.1 }
def A_zz75 : Cfg := mkCfg tab [(62, S_zz74)] []
theorem run_zz75 (N : Nat) (x : (S_zz75).a.den) : runF (A_zz75) N Try.f71 S_zz75 x = zz75 x.1 x.2.1 := by kernel_rfl
theorem fn_zz75 : FnOk Try.prog 71 := ⟨_, Try.func71, by kernel_rfl, by kernel_rfl⟩
theorem good_zz75 : Gx.Good Try.prog 71 S_zz75 := vaa Try.func71 (of_decide_eq_true (by kernel_rfl)) fun x r h => ⟨A_zz75, big, vac tabOk, vab (show SigsOk Try.prog [(62, S_zz74)] from ⟨⟨fn_zz74, good_zz74⟩, trivial⟩), (run_zz75 big x).trans h⟩
def vbgn (l_0 : Y1) (x_1 z_2 : Int) : Z0 :=
  (l_0).bind fun xq1 =>
  (zz75 xq1.1 (l_0, x_1, z_2, ())).bind fun rq2 =>
  some (rq2.1, (()))
def zz76 (l_0 : Y1) (x_1 z_2 : Int) : Z0 := vbgn l_0 x_1 z_2
def S_zz76 : Sig := { a := (.pair (.opt (.pair (.sl (.sl .bool)) (.pair (.sl (.sl I)) (.pair (.sl (.sl I)) .unit)))) (.pair I (.pair I .unit))), md := [0, 0, 0], mf := [], m := .unit, r := .bool, rf := .i, f := fun x => zz76 x.1 x.2.1 x.2.2.1 }
def A_zz76 : Cfg := mkCfg tab [(71, S_zz75)] [(3, [.drop, .drop, .drop, .as (.ptr (.opt (.pair (.sl (.sl .bool)) (.pair (.sl (.sl I)) (.pair (.sl (.sl I)) .unit))))) .i, .as (.ptr I) .i, .as (.ptr I) .i])]
theorem run_zz76 (N : Nat) (x : (S_zz76).a.den) : runF (A_zz76) N Try.f75 S_zz76 x = zz76 x.1 x.2.1 x.2.2.1 := by kernel_rfl
theorem fn_zz76 : FnOk Try.prog 75 := ⟨_, Try.func75, by kernel_rfl, by kernel_rfl⟩
theorem good_zz76 : Gx.Good Try.prog 75 S_zz76 := vaa Try.func75 (of_decide_eq_true (by kernel_rfl)) fun x r h => ⟨A_zz76, big, vac tabOk, vab (show SigsOk Try.prog [(71, S_zz75)] from ⟨⟨fn_zz75, good_zz75⟩, trivial⟩), (run_zz76 big x).trans h⟩
def vmu (rec : Unit → Y1 → Int → Int → Int → Int → Int → Z2) (k : Unit → Y1 → Int → Int → Z2) (so1 : Unit) (l6 : Y1) (x8 t21 t22 t29 t30 : Int) : Z2 :=
  cond (decide (t30 < t29))
  ((zz76 l6 x8 t30).bind fun rq4 =>
  cond (!rq4.1)
  (some ((false, true, ()), (())))
  (rec so1 l6 x8 t21 t22 t29 (IntKind.i64.wrap (t30 + (1 : Int)))))
  (k so1 l6 t21 t22)
def vfq (rec : Unit → Y1 → Int → Int → Z2) (so1 : Unit) (l6 : Y1) (t21 t22 : Int) : Z2 :=
  rec so1 l6 t21 (IntKind.i64.wrap (t22 + (1 : Int)))
def vqe (L8 : Unit → Y1 → Int → Int → Int → Int → Int → Z2) (k : Z2) (so1 : Unit) (l6 : Y1) (t21 t22 : Int) : Z2 :=
  cond (decide (t22 < t21))
  ((l6).bind fun xq3 =>
  L8 so1 l6 t22 t21 t22 (xq3.1.length : Int) (0 : Int))
  (k)
def vcv : Z2 :=
  some ((true, true, ()), (()))
def vafc (L5 : Unit → Y1 → Int → Int → Z2) (p_0 : Y2) (so_1 : Unit) : Z2 :=
  (zz32 p_0).bind fun rq1 =>
  cond (!rq1.1.2.1)
  (some ((false, false, ()), (())))
  ((rq1.1.1).bind fun xq2 =>
  L5 so_1 rq1.1.1 (xq2.1.length : Int) (0 : Int))
def vmi (N : Nat) (k : Unit → Y1 → Int → Int → Z2) : Nat → Unit → Y1 → Int → Int → Int → Int → Int → Z2
  | 0, _, _, _, _, _, _, _ => none
  | m + 1, so1, l6, x8, t21, t22, t29, t30 => vmu (vmi N k m) k so1 l6 x8 t21 t22 t29 t30
def vsu (N : Nat) (rec : Unit → Y1 → Int → Int → Z2) (k : Z2) (so1 : Unit) (l6 : Y1) (x8 t21 t22 t29 t30 : Int) : Z2 := vmi N (vfq rec) N so1 l6 x8 t21 t22 t29 t30
def vjr (N : Nat) (k : Z2) : Nat → Unit → Y1 → Int → Int → Z2
  | 0, _, _, _, _ => none
  | m + 1, so1, l6, t21, t22 => vqe (vsu N (vjr N k m) k) k so1 l6 t21 t22
def vzg (N : Nat) (so1 : Unit) (l6 : Y1) (t21 t22 : Int) : Z2 := vjr N (vcv) N so1 l6 t21 t22
def zz77 (N : Nat) (p_0 : Y2) (so_1 : Unit) : Z2 := vafc (vzg N) p_0 so_1
def S_zz77 : Sig := { a := (.pair (.pair (.sl (.sl I)) .unit) (.pair (.clo 75 0 .unit) .unit)), md := [0, 0], mf := [], m := .unit, r := (.tup (.pair .bool (.pair .bool .unit))), rf := .i, f := fun x => zz77 big x.1 x.2.1 }
def A_zz77 : Cfg := mkCfg tab [(51, S_zz32), (75, S_zz76)] [(10, [.drop, .as (.clo 75 0 .unit) .i, .drop, .drop, .drop, .drop, .as (.opt (.pair (.sl (.sl .bool)) (.pair (.sl (.sl I)) (.pair (.sl (.sl I)) .unit)))) .i, .drop, .drop, .drop, .drop, .drop, .drop, .drop, .drop, .drop, .drop, .drop, .drop, .drop, .drop, .as I .i, .as I .i]), (16, [.drop, .as (.clo 75 0 .unit) .i, .drop, .drop, .drop, .drop, .as (.opt (.pair (.sl (.sl .bool)) (.pair (.sl (.sl I)) (.pair (.sl (.sl I)) .unit)))) .i, .drop, .as I .i, .drop, .drop, .drop, .drop, .drop, .drop, .drop, .drop, .drop, .drop, .drop, .drop, .as I .i, .as I .i, .drop, .drop, .drop, .drop, .drop, .drop, .as I .i, .as I .i]), (29, []), (27, [.drop, .as (.clo 75 0 .unit) .i, .drop, .drop, .drop, .drop, .as (.opt (.pair (.sl (.sl .bool)) (.pair (.sl (.sl I)) (.pair (.sl (.sl I)) .unit)))) .i, .drop, .drop, .drop, .drop, .drop, .drop, .drop, .drop, .drop, .drop, .drop, .drop, .drop, .drop, .as I .i, .as I .i])]
noncomputable def vfp (N n : Nat) (K : Ex → St → Z2) (so1 : Unit) (l6 : Y1) (t21 t22 : Int) : Z2 := iter ((A_zz77).shape 10) (run (A_zz77) N (codeAt Try.f74 [1, 1, 1, 0, 1, 0, 0])) n ([.u, .val (.clo 75 0 .unit) .i so1, .u, .u, .u, .u, .val (.opt (.pair (.sl (.sl .bool)) (.pair (.sl (.sl I)) (.pair (.sl (.sl I)) .unit)))) .i l6, .u, .u, .u, .u, .u, .u, .u, .u, .u, .u, .u, .u, .u, .u, .val I .i t21, .val I .i t22] ++ List.replicate 18 .u) K
noncomputable def vok (N n : Nat) (K : Ex → St → Z2) (so1 : Unit) (l6 : Y1) (x8 t21 t22 t29 t30 : Int) : Z2 := iter ((A_zz77).shape 16) (run (A_zz77) N (codeAt Try.f74 [1, 1, 1, 0, 1, 0, 0, 1, 1, 0, 0, 1, 1, 0, 0])) n ([.u, .val (.clo 75 0 .unit) .i so1, .u, .u, .u, .u, .val (.opt (.pair (.sl (.sl .bool)) (.pair (.sl (.sl I)) (.pair (.sl (.sl I)) .unit)))) .i l6, .u, .val I .i x8, .u, .u, .u, .u, .u, .u, .u, .u, .u, .u, .u, .u, .val I .i t21, .val I .i t22, .u, .u, .u, .u, .u, .u, .val I .i t29, .val I .i t30] ++ List.replicate 10 .u) K
noncomputable abbrev vacy : Ex → St → Z2 := finish (A_zz77) S_zz77 Try.f74.results.toList
noncomputable abbrev vgk (kX : St → Z2) : Z2 := kX ([] ++ List.replicate 41 .u)
noncomputable abbrev vix (kX : St → Z2) (kO : Nat → St → Z2) : Ex → St → Z2 := exK vacy 0 ((A_zz77).shape 29) kX kO
noncomputable abbrev vtc (kX : St → Z2) : Unit → Y1 → Int → Int → Z2 := fun (so1 : Unit) (l6 : Y1) (t21 t22 : Int) => kX ([.u, .val (.clo 75 0 .unit) .i so1, .u, .u, .u, .u, .val (.opt (.pair (.sl (.sl .bool)) (.pair (.sl (.sl I)) (.pair (.sl (.sl I)) .unit)))) .i l6, .u, .u, .u, .u, .u, .u, .u, .u, .u, .u, .u, .u, .u, .u, .val I .i t21, .val I .i t22] ++ List.replicate 18 .u)
noncomputable abbrev vye (kX : St → Z2) (kO : Nat → St → Z2) : Ex → St → Z2 := exK vacy 2 ((A_zz77).shape 27) kX kO
theorem vbbf (N m : Nat) (kX : St → Z2) (kO : Nat → St → Z2) (so1 : Unit) (l6 : Y1) (x8 t21 t22 t29 t30 : Int) : vok N (m + 1) (vye kX kO) so1 l6 x8 t21 t22 t29 t30 = vmu (vok N m (vye kX kO)) (vtc kX) so1 l6 x8 t21 t22 t29 t30 := by kernel_rfl
theorem vael (N : Nat) (kX : St → Z2) (kO : Nat → St → Z2) : ∀ (n : Nat) (so1 : Unit) (l6 : Y1) (x8 t21 t22 t29 t30 : Int), vok N n (vye kX kO) so1 l6 x8 t21 t22 t29 t30 = vmi N (vtc kX) n so1 l6 x8 t21 t22 t29 t30
  | 0, _, _, _, _, _, _, _ => rfl
  | m + 1, so1, l6, x8, t21, t22, t29, t30 => by
    have hrec : vok N m (vye kX kO) = (vmi N (vtc kX) m) := (funext fun so1 => (funext fun l6 => (funext fun x8 => (funext fun t21 => (funext fun t22 => (funext fun t29 => (funext fun t30 => vael N kX kO m so1 l6 x8 t21 t22 t29 t30)))))))
    refine (vbbf N m kX kO so1 l6 x8 t21 t22 t29 t30).trans ?_
    rw [hrec]
    rfl
noncomputable abbrev vaif (N m : Nat) (kX : St → Z2) (kO : Nat → St → Z2) : Ex → St → Z2 := (blockK 2 (blockK 1 (seqK ((A_zz77).shape 27) (gated ((A_zz77).shape 500013).isSome N (run (A_zz77) N (codeAt Try.f74 [1, 1, 1, 0, 1, 0, 0, 1, 1, 1]))) (iterK ((A_zz77).shape 10) (run (A_zz77) N (codeAt Try.f74 [1, 1, 1, 0, 1, 0, 0])) m (vix kX kO)))))
noncomputable abbrev vajb (N m : Nat) (kX : St → Z2) (kO : Nat → St → Z2) : St → Z2 := fun st' => run (A_zz77) N (codeAt Try.f74 [1, 1, 1, 0, 1, 0, 0, 1, 1, 1]) st' (iterK ((A_zz77).shape 10) (run (A_zz77) N (codeAt Try.f74 [1, 1, 1, 0, 1, 0, 0])) m (vix kX kO))
theorem vavi (N m : Nat) (kX : St → Z2) (kO : Nat → St → Z2) (so1 : Unit) (l6 : Y1) (t21 t22 : Int) : vtc (vajb N m kX kO) so1 l6 t21 t22 = vfq (vfp N m (vix kX kO)) so1 l6 t21 t22 := by kernel_rfl
theorem vbjb (N m : Nat) (kX : St → Z2) (kO : Nat → St → Z2) (recF : Unit → Y1 → Int → Int → Z2) (hrec : vfp N m (vix kX kO) = recF) (so1 : Unit) (l6 : Y1) (x8 t21 t22 t29 t30 : Int) : vok N N (vaif N m kX kO) so1 l6 x8 t21 t22 t29 t30 = vsu N recF (vgk kX) so1 l6 x8 t21 t22 t29 t30 :=
  have h : vtc (vajb N m kX kO) = (vfq recF) := (funext fun so1 => (funext fun l6 => (funext fun t21 => (funext fun t22 => (vavi N m kX kO so1 l6 t21 t22).trans (by rw [hrec])))))
  ((vad (fun st => by kernel_rfl) (fun st => by kernel_rfl)).trans (vael N (vajb N m kX kO) (fun j st => (vaif N m kX kO) (.exit j) st) N so1 l6 x8 t21 t22 t29 t30)).trans (congrArg (fun k => vmi N k N so1 l6 x8 t21 t22 t29 t30) h)
theorem vbda (N m : Nat) (kX : St → Z2) (kO : Nat → St → Z2) (so1 : Unit) (l6 : Y1) (t21 t22 : Int) : vfp N (m + 1) (vix kX kO) so1 l6 t21 t22 = vqe (vok N N (vaif N m kX kO)) (vgk kX) so1 l6 t21 t22 := by kernel_rfl
theorem vafb (N : Nat) (kX : St → Z2) (kO : Nat → St → Z2) : ∀ (n : Nat) (so1 : Unit) (l6 : Y1) (t21 t22 : Int), vfp N n (vix kX kO) so1 l6 t21 t22 = vjr N (vgk kX) n so1 l6 t21 t22
  | 0, _, _, _, _ => rfl
  | m + 1, so1, l6, t21, t22 => by
    have hrec : vfp N m (vix kX kO) = (vjr N (vgk kX) m) := (funext fun so1 => (funext fun l6 => (funext fun t21 => (funext fun t22 => vafb N kX kO m so1 l6 t21 t22))))
    refine (vbda N m kX kO so1 l6 t21 t22).trans ?_
    rw [(funext fun so1 => (funext fun l6 => (funext fun x8 => (funext fun t21 => (funext fun t22 => (funext fun t29 => (funext fun t30 => vbjb N m kX kO (vjr N (vgk kX) m) hrec so1 l6 x8 t21 t22 t29 t30)))))))]
    rfl
noncomputable abbrev valz (N : Nat) : Ex → St → Z2 := (blockK 0 (seqK ((A_zz77).shape 29) (gated ((A_zz77).shape 500014).isSome N (run (A_zz77) N (codeAt Try.f74 [1, 1, 1, 1]))) vacy))
noncomputable abbrev vakm (N : Nat) : St → Z2 := fun st' => run (A_zz77) N (codeAt Try.f74 [1, 1, 1, 1]) st' vacy
theorem vayr (N : Nat) : vgk (vakm N) = vcv := by kernel_rfl
theorem vbik (N : Nat) (so1 : Unit) (l6 : Y1) (t21 t22 : Int) : vfp N N (valz N) so1 l6 t21 t22 = vzg N so1 l6 t21 t22 :=
  have h : vgk (vakm N) = (vcv) := vayr N
  ((vad (fun st => by kernel_rfl) (fun st => by kernel_rfl)).trans (vafb N (vakm N) (fun j st => (valz N) (.exit j) st) N so1 l6 t21 t22)).trans (congrArg (fun k => vjr N k N so1 l6 t21 t22) h)
theorem run0_zz77 (N : Nat) (x : (S_zz77).a.den) : runF (A_zz77) N Try.f74 S_zz77 x = (vafc (vfp N N (valz N)) x.1 x.2.1) := by kernel_rfl
theorem run_zz77 (N : Nat) (x : (S_zz77).a.den) : runF (A_zz77) N Try.f74 S_zz77 x = zz77 N x.1 x.2.1 := by
  refine (run0_zz77 N x).trans ?_
  rw [(funext fun so1 => (funext fun l6 => (funext fun t21 => (funext fun t22 => vbik N so1 l6 t21 t22))))]
  rfl
theorem fn_zz77 : FnOk Try.prog 74 := ⟨_, Try.func74, by kernel_rfl, by kernel_rfl⟩
theorem good_zz77 : Gx.Good Try.prog 74 S_zz77 := vaa Try.func74 (of_decide_eq_true (by kernel_rfl)) fun x r h => ⟨A_zz77, big, vac tabOk, vab (show SigsOk Try.prog [(51, S_zz32), (75, S_zz76)] from ⟨⟨fn_zz32, good_zz32⟩, ⟨fn_zz76, good_zz76⟩, trivial⟩), (run_zz77 big x).trans h⟩
def vauv (p_0 : Y2) : Z2 :=
  (zz77 big p_0 ()).bind fun rq1 =>
  some ((rq1.1.1, rq1.1.2.1, ()), (()))
def zz78 (p_0 : Y2) : Z2 := vauv p_0
def S_zz78 : Sig := { a := (.pair (.pair (.sl (.sl I)) .unit) .unit), md := [0], mf := [], m := .unit, r := (.tup (.pair .bool (.pair .bool .unit))), rf := .i, f := fun x => zz78 x.1 }
def A_zz78 : Cfg := mkCfg tab [(74, S_zz77)] []
theorem run_zz78 (N : Nat) (x : (S_zz78).a.den) : runF (A_zz78) N Try.f27 S_zz78 x = zz78 x.1 := by kernel_rfl
theorem fn_zz78 : FnOk Try.prog 27 := ⟨_, Try.func27, by kernel_rfl, by kernel_rfl⟩
theorem good_zz78 : Gx.Good Try.prog 27 S_zz78 := vaa Try.func27 (of_decide_eq_true (by kernel_rfl)) fun x r h => ⟨A_zz78, big, vac tabOk, vab (show SigsOk Try.prog [(74, S_zz77)] from ⟨⟨fn_zz77, good_zz77⟩, trivial⟩), (run_zz78 big x).trans h⟩
def vex (rec : Y2 → Int → Int → Int → Z2) (k : Y2 → Int → Int → Z2) (p1 : Y2) (x4 y5 z6 : Int) : Z2 :=
  cond (decide (z6 < (p1.1.length : Int)))
  ((zz15 p1 x4 y5).bind fun rq2 =>
  cond rq2.1
  ((zz15 p1 y5 z6).bind fun rq3 =>
  cond rq3.1
  ((zz57 big p1 x4 y5 z6).bind fun rq4 =>
  cond (decide ((rq4.1.length : Int) = (0 : Int)))
  (some ((false, true, ()), (())))
  (rec p1 x4 y5 (IntKind.i64.wrap (z6 + (1 : Int)))))
  (rec p1 x4 y5 (IntKind.i64.wrap (z6 + (1 : Int)))))
  (rec p1 x4 y5 (IntKind.i64.wrap (z6 + (1 : Int)))))
  (k p1 x4 y5)
def vee (rec : Y2 → Int → Int → Z2) (p1 : Y2) (x4 y5 : Int) : Z2 :=
  rec p1 x4 (IntKind.i64.wrap (y5 + (1 : Int)))
def vng (L10 : Y2 → Int → Int → Int → Z2) (k : Y2 → Int → Z2) (p1 : Y2) (x4 y5 : Int) : Z2 :=
  cond (decide (y5 < (p1.1.length : Int)))
  (L10 p1 x4 y5 (0 : Int))
  (k p1 x4)
def vcx (rec : Y2 → Int → Z2) (p1 : Y2) (x4 : Int) : Z2 :=
  rec p1 (IntKind.i64.wrap (x4 + (1 : Int)))
def vpe (L7 : Y2 → Int → Int → Z2) (k : Z2) (p1 : Y2) (x4 : Int) : Z2 :=
  cond (decide (x4 < (p1.1.length : Int)))
  (L7 p1 x4 (0 : Int))
  (k)
def vdc : Z2 :=
  some ((true, true, ()), (()))
def vadf (L4 : Y2 → Int → Z2) (p_0 : Y2) : Z2 :=
  (zz52 big p_0).bind fun rq1 =>
  cond (!rq1.1)
  (some ((false, false, ()), (())))
  (L4 p_0 (0 : Int))
def vgv (N : Nat) (k : Y2 → Int → Int → Z2) : Nat → Y2 → Int → Int → Int → Z2
  | 0, _, _, _, _ => none
  | m + 1, p1, x4, y5, z6 => vex (vgv N k m) k p1 x4 y5 z6
def vrd (N : Nat) (rec : Y2 → Int → Int → Z2) (k : Y2 → Int → Z2) (p1 : Y2) (x4 y5 z6 : Int) : Z2 := vgv N (vee rec) N p1 x4 y5 z6
def vfn (N : Nat) (k : Y2 → Int → Z2) : Nat → Y2 → Int → Int → Z2
  | 0, _, _, _ => none
  | m + 1, p1, x4, y5 => vng (vrd N (vfn N k m) k) k p1 x4 y5
def vva (N : Nat) (rec : Y2 → Int → Z2) (k : Z2) (p1 : Y2) (x4 y5 : Int) : Z2 := vfn N (vcx rec) N p1 x4 y5
def vje (N : Nat) (k : Z2) : Nat → Y2 → Int → Z2
  | 0, _, _ => none
  | m + 1, p1, x4 => vpe (vva N (vje N k m) k) k p1 x4
def vahv (N : Nat) (p1 : Y2) (x4 : Int) : Z2 := vje N (vdc) N p1 x4
def zz79 (N : Nat) (p_0 : Y2) : Z2 := vadf (vahv N) p_0
def S_zz79 : Sig := { a := (.pair (.pair (.sl (.sl I)) .unit) .unit), md := [0], mf := [], m := .unit, r := (.tup (.pair .bool (.pair .bool .unit))), rf := .i, f := fun x => zz79 big x.1 }
def A_zz79 : Cfg := mkCfg tab [(55, S_zz52), (78, S_zz15), (64, S_zz57)] [(8, [.drop, .as y1 (.o .i), .drop, .drop, .as I .i]), (14, [.drop, .as y1 (.o .i), .drop, .drop, .as I .i, .as I .i]), (29, []), (20, [.drop, .as y1 (.o .i), .drop, .drop, .as I .i, .as I .i, .as I .i]), (11, [.drop, .as y1 (.o .i), .drop, .drop, .as I .i]), (17, [.drop, .as y1 (.o .i), .drop, .drop, .as I .i, .as I .i])]
noncomputable def vha (N n : Nat) (K : Ex → St → Z2) (p1 : Y2) (x4 : Int) : Z2 := iter ((A_zz79).shape 8) (run (A_zz79) N (codeAt Try.f28 [1, 1, 0, 1, 0, 0])) n ([.u, .val y1 (.o .i) p1, .u, .u, .val I .i x4] ++ List.replicate 45 .u) K
noncomputable def vfs (N n : Nat) (K : Ex → St → Z2) (p1 : Y2) (x4 y5 : Int) : Z2 := iter ((A_zz79).shape 14) (run (A_zz79) N (codeAt Try.f28 [1, 1, 0, 1, 0, 0, 1, 0, 0, 1, 0, 0])) n ([.u, .val y1 (.o .i) p1, .u, .u, .val I .i x4, .val I .i y5] ++ List.replicate 44 .u) K
noncomputable def vgd (N n : Nat) (K : Ex → St → Z2) (p1 : Y2) (x4 y5 z6 : Int) : Z2 := iter ((A_zz79).shape 20) (run (A_zz79) N (codeAt Try.f28 [1, 1, 0, 1, 0, 0, 1, 0, 0, 1, 0, 0, 1, 0, 0, 1, 0, 0])) n ([.u, .val y1 (.o .i) p1, .u, .u, .val I .i x4, .val I .i y5, .val I .i z6] ++ List.replicate 43 .u) K
noncomputable abbrev vxl : Ex → St → Z2 := finish (A_zz79) S_zz79 Try.f28.results.toList
noncomputable abbrev vju (kX : St → Z2) : Z2 := kX ([] ++ List.replicate 50 .u)
noncomputable abbrev vfa (kX : St → Z2) (kO : Nat → St → Z2) : Ex → St → Z2 := exK vxl 0 ((A_zz79).shape 29) kX kO
noncomputable abbrev vfy (kX : St → Z2) : Y2 → Int → Z2 := fun (p1 : Y2) (x4 : Int) => kX ([.u, .val y1 (.o .i) p1, .u, .u, .val I .i x4] ++ List.replicate 45 .u)
noncomputable abbrev vjj (kX : St → Z2) (kO : Nat → St → Z2) : Ex → St → Z2 := exK vxl 2 ((A_zz79).shape 11) kX kO
noncomputable abbrev vrf (kX : St → Z2) : Y2 → Int → Int → Z2 := fun (p1 : Y2) (x4 y5 : Int) => kX ([.u, .val y1 (.o .i) p1, .u, .u, .val I .i x4, .val I .i y5] ++ List.replicate 44 .u)
noncomputable abbrev vvw (kX : St → Z2) (kO : Nat → St → Z2) : Ex → St → Z2 := exK vxl 4 ((A_zz79).shape 17) kX kO
theorem vaya (N m : Nat) (kX : St → Z2) (kO : Nat → St → Z2) (p1 : Y2) (x4 y5 z6 : Int) : vgd N (m + 1) (vvw kX kO) p1 x4 y5 z6 = vex (vgd N m (vvw kX kO)) (vrf kX) p1 x4 y5 z6 := by kernel_rfl
theorem vaav (N : Nat) (kX : St → Z2) (kO : Nat → St → Z2) : ∀ (n : Nat) (p1 : Y2) (x4 y5 z6 : Int), vgd N n (vvw kX kO) p1 x4 y5 z6 = vgv N (vrf kX) n p1 x4 y5 z6
  | 0, _, _, _, _ => rfl
  | m + 1, p1, x4, y5, z6 => by
    have hrec : vgd N m (vvw kX kO) = (vgv N (vrf kX) m) := (funext fun p1 => (funext fun x4 => (funext fun y5 => (funext fun z6 => vaav N kX kO m p1 x4 y5 z6))))
    refine (vaya N m kX kO p1 x4 y5 z6).trans ?_
    rw [hrec]
    rfl
noncomputable abbrev vabu (N m : Nat) (kX : St → Z2) (kO : Nat → St → Z2) : Ex → St → Z2 := (blockK 4 (blockK 3 (seqK ((A_zz79).shape 17) (gated ((A_zz79).shape 500008).isSome N (run (A_zz79) N (codeAt Try.f28 [1, 1, 0, 1, 0, 0, 1, 0, 0, 1, 0, 0, 1, 1]))) (iterK ((A_zz79).shape 14) (run (A_zz79) N (codeAt Try.f28 [1, 1, 0, 1, 0, 0, 1, 0, 0, 1, 0, 0])) m (vjj kX kO)))))
noncomputable abbrev vabi (N m : Nat) (kX : St → Z2) (kO : Nat → St → Z2) : St → Z2 := fun st' => run (A_zz79) N (codeAt Try.f28 [1, 1, 0, 1, 0, 0, 1, 0, 0, 1, 0, 0, 1, 1]) st' (iterK ((A_zz79).shape 14) (run (A_zz79) N (codeAt Try.f28 [1, 1, 0, 1, 0, 0, 1, 0, 0, 1, 0, 0])) m (vjj kX kO))
theorem vasq (N m : Nat) (kX : St → Z2) (kO : Nat → St → Z2) (p1 : Y2) (x4 y5 : Int) : vrf (vabi N m kX kO) p1 x4 y5 = vee (vfs N m (vjj kX kO)) p1 x4 y5 := by kernel_rfl
theorem vbfa (N m : Nat) (kX : St → Z2) (kO : Nat → St → Z2) (recF : Y2 → Int → Int → Z2) (hrec : vfs N m (vjj kX kO) = recF) (p1 : Y2) (x4 y5 z6 : Int) : vgd N N (vabu N m kX kO) p1 x4 y5 z6 = vrd N recF (vfy kX) p1 x4 y5 z6 :=
  have h : vrf (vabi N m kX kO) = (vee recF) := (funext fun p1 => (funext fun x4 => (funext fun y5 => (vasq N m kX kO p1 x4 y5).trans (by rw [hrec]))))
  ((vad (fun st => by kernel_rfl) (fun st => by kernel_rfl)).trans (vaav N (vabi N m kX kO) (fun j st => (vabu N m kX kO) (.exit j) st) N p1 x4 y5 z6)).trans (congrArg (fun k => vgv N k N p1 x4 y5 z6) h)
theorem vbbk (N m : Nat) (kX : St → Z2) (kO : Nat → St → Z2) (p1 : Y2) (x4 y5 : Int) : vfs N (m + 1) (vjj kX kO) p1 x4 y5 = vng (vgd N N (vabu N m kX kO)) (vfy kX) p1 x4 y5 := by kernel_rfl
theorem vaft (N : Nat) (kX : St → Z2) (kO : Nat → St → Z2) : ∀ (n : Nat) (p1 : Y2) (x4 y5 : Int), vfs N n (vjj kX kO) p1 x4 y5 = vfn N (vfy kX) n p1 x4 y5
  | 0, _, _, _ => rfl
  | m + 1, p1, x4, y5 => by
    have hrec : vfs N m (vjj kX kO) = (vfn N (vfy kX) m) := (funext fun p1 => (funext fun x4 => (funext fun y5 => vaft N kX kO m p1 x4 y5)))
    refine (vbbk N m kX kO p1 x4 y5).trans ?_
    rw [(funext fun p1 => (funext fun x4 => (funext fun y5 => (funext fun z6 => vbfa N m kX kO (vfn N (vfy kX) m) hrec p1 x4 y5 z6))))]
    rfl
noncomputable abbrev vakn (N m : Nat) (kX : St → Z2) (kO : Nat → St → Z2) : Ex → St → Z2 := (blockK 2 (blockK 1 (seqK ((A_zz79).shape 11) (gated ((A_zz79).shape 500005).isSome N (run (A_zz79) N (codeAt Try.f28 [1, 1, 0, 1, 0, 0, 1, 1]))) (iterK ((A_zz79).shape 8) (run (A_zz79) N (codeAt Try.f28 [1, 1, 0, 1, 0, 0])) m (vfa kX kO)))))
noncomputable abbrev valx (N m : Nat) (kX : St → Z2) (kO : Nat → St → Z2) : St → Z2 := fun st' => run (A_zz79) N (codeAt Try.f28 [1, 1, 0, 1, 0, 0, 1, 1]) st' (iterK ((A_zz79).shape 8) (run (A_zz79) N (codeAt Try.f28 [1, 1, 0, 1, 0, 0])) m (vfa kX kO))
theorem vavn (N m : Nat) (kX : St → Z2) (kO : Nat → St → Z2) (p1 : Y2) (x4 : Int) : vfy (valx N m kX kO) p1 x4 = vcx (vha N m (vfa kX kO)) p1 x4 := by kernel_rfl
theorem vblm (N m : Nat) (kX : St → Z2) (kO : Nat → St → Z2) (recF : Y2 → Int → Z2) (hrec : vha N m (vfa kX kO) = recF) (p1 : Y2) (x4 y5 : Int) : vfs N N (vakn N m kX kO) p1 x4 y5 = vva N recF (vju kX) p1 x4 y5 :=
  have h : vfy (valx N m kX kO) = (vcx recF) := (funext fun p1 => (funext fun x4 => (vavn N m kX kO p1 x4).trans (by rw [hrec])))
  ((vad (fun st => by kernel_rfl) (fun st => by kernel_rfl)).trans (vaft N (valx N m kX kO) (fun j st => (vakn N m kX kO) (.exit j) st) N p1 x4 y5)).trans (congrArg (fun k => vfn N k N p1 x4 y5) h)
theorem vbcb (N m : Nat) (kX : St → Z2) (kO : Nat → St → Z2) (p1 : Y2) (x4 : Int) : vha N (m + 1) (vfa kX kO) p1 x4 = vpe (vfs N N (vakn N m kX kO)) (vju kX) p1 x4 := by kernel_rfl
theorem vaeg (N : Nat) (kX : St → Z2) (kO : Nat → St → Z2) : ∀ (n : Nat) (p1 : Y2) (x4 : Int), vha N n (vfa kX kO) p1 x4 = vje N (vju kX) n p1 x4
  | 0, _, _ => rfl
  | m + 1, p1, x4 => by
    have hrec : vha N m (vfa kX kO) = (vje N (vju kX) m) := (funext fun p1 => (funext fun x4 => vaeg N kX kO m p1 x4))
    refine (vbcb N m kX kO p1 x4).trans ?_
    rw [(funext fun p1 => (funext fun x4 => (funext fun y5 => vblm N m kX kO (vje N (vju kX) m) hrec p1 x4 y5)))]
    rfl
noncomputable abbrev vahg (N : Nat) : Ex → St → Z2 := (blockK 0 (seqK ((A_zz79).shape 29) (gated ((A_zz79).shape 500014).isSome N (run (A_zz79) N (codeAt Try.f28 [1, 1, 1]))) vxl))
noncomputable abbrev vais (N : Nat) : St → Z2 := fun st' => run (A_zz79) N (codeAt Try.f28 [1, 1, 1]) st' vxl
theorem vavk (N : Nat) : vju (vais N) = vdc := by kernel_rfl
theorem vbih (N : Nat) (p1 : Y2) (x4 : Int) : vha N N (vahg N) p1 x4 = vahv N p1 x4 :=
  have h : vju (vais N) = (vdc) := vavk N
  ((vad (fun st => by kernel_rfl) (fun st => by kernel_rfl)).trans (vaeg N (vais N) (fun j st => (vahg N) (.exit j) st) N p1 x4)).trans (congrArg (fun k => vje N k N p1 x4) h)
theorem run0_zz79 (N : Nat) (x : (S_zz79).a.den) : runF (A_zz79) N Try.f28 S_zz79 x = (vadf (vha N N (vahg N)) x.1) := by kernel_rfl
theorem run_zz79 (N : Nat) (x : (S_zz79).a.den) : runF (A_zz79) N Try.f28 S_zz79 x = zz79 N x.1 := by
  refine (run0_zz79 N x).trans ?_
  rw [(funext fun p1 => (funext fun x4 => vbih N p1 x4))]
  rfl
theorem fn_zz79 : FnOk Try.prog 28 := ⟨_, Try.func28, by kernel_rfl, by kernel_rfl⟩
theorem good_zz79 : Gx.Good Try.prog 28 S_zz79 := vaa Try.func28 (of_decide_eq_true (by kernel_rfl)) fun x r h => ⟨A_zz79, big, vac tabOk, vab (show SigsOk Try.prog [(55, S_zz52), (78, S_zz15), (64, S_zz57)] from ⟨⟨fn_zz52, good_zz52⟩, ⟨fn_zz15, good_zz15⟩, ⟨fn_zz57, good_zz57⟩, trivial⟩), (run_zz79 big x).trans h⟩
end Go.Proofs.Ytcdlbboeflehdaa
