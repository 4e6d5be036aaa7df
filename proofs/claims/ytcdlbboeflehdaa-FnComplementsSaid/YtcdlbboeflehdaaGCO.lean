import Derived.Test.YtcdlbboeflehdaaGCOp3
set_option maxRecDepth 100000
set_option linter.unusedVariables false
namespace Go.Proofs.Ytcdlbboeflehdaa
open Go Go.Gx Go.Proofs
def vmu (rec : Y1 → Int → Int → Int → Int → Int → Int → Int → Int → Z8) (k : Y1 → Int → Int → Int → Int → Int → Z8) (l0 : Y1) (x3 y4 t10 t11 t18 t19 t26 t27 : Int) : Z8 :=
  cond (decide (t27 < t26))
  ((l0).bind fun xq4 =>
  (atI xq4.2.1 x3).bind fun xq5 =>
  (l0).bind fun xq6 =>
  (atI xq6.2.2.1 y4).bind fun xq7 =>
  (atI xq7 t27).bind fun xq8 =>
  (atI xq5 xq8).bind fun xq9 =>
  (l0).bind fun xq10 =>
  (l0).bind fun xq11 =>
  (atI xq11.2.1 x3).bind fun xq12 =>
  (atI xq12 y4).bind fun xq13 =>
  (atI xq10.2.2.1 xq13).bind fun xq14 =>
  (l0).bind fun xq15 =>
  (atI xq15.2.1 x3).bind fun xq16 =>
  (atI xq16 t27).bind fun xq17 =>
  (atI xq14 xq17).bind fun xq18 =>
  cond (decide (xq9 ≠ xq18))
  (some ((some [x3, y4, t27]), (())))
  (rec l0 x3 y4 t10 t11 t18 t19 t26 (IntKind.i64.wrap (t27 + (1 : Int)))))
  (k l0 x3 t10 t11 t18 t19)
def vjy (rec : Y1 → Int → Int → Int → Int → Int → Z8) (l0 : Y1) (x3 t10 t11 t18 t19 : Int) : Z8 :=
  rec l0 x3 t10 t11 t18 (IntKind.i64.wrap (t19 + (1 : Int)))
def vpa (L8 : Y1 → Int → Int → Int → Int → Int → Int → Int → Int → Z8) (k : Y1 → Int → Int → Z8) (l0 : Y1) (x3 t10 t11 t18 t19 : Int) : Z8 :=
  cond (decide (t19 < t18))
  ((l0).bind fun xq3 =>
  L8 l0 x3 t19 t10 t11 t18 t19 (xq3.1.length : Int) (0 : Int))
  (k l0 t10 t11)
def vdb (rec : Y1 → Int → Int → Z8) (l0 : Y1) (t10 t11 : Int) : Z8 :=
  rec l0 t10 (IntKind.i64.wrap (t11 + (1 : Int)))
def vmt (L5 : Y1 → Int → Int → Int → Int → Int → Z8) (k : Z8) (l0 : Y1) (t10 t11 : Int) : Z8 :=
  cond (decide (t11 < t10))
  ((l0).bind fun xq2 =>
  L5 l0 t11 t10 t11 (xq2.1.length : Int) (0 : Int))
  (k)
def vde : Z8 :=
  some (none, (()))
def vase (L2 : Y1 → Int → Int → Z8) (l_0 : Y1) : Z8 :=
  (l_0).bind fun xq1 =>
  L2 l_0 (xq1.1.length : Int) (0 : Int)
def vlq (N : Nat) (k : Y1 → Int → Int → Int → Int → Int → Z8) : Nat → Y1 → Int → Int → Int → Int → Int → Int → Int → Int → Z8
  | 0, _, _, _, _, _, _, _, _, _ => none
  | m + 1, l0, x3, y4, t10, t11, t18, t19, t26, t27 => vmu (vlq N k m) k l0 x3 y4 t10 t11 t18 t19 t26 t27
def vuh (N : Nat) (rec : Y1 → Int → Int → Int → Int → Int → Z8) (k : Y1 → Int → Int → Z8) (l0 : Y1) (x3 y4 t10 t11 t18 t19 t26 t27 : Int) : Z8 := vlq N (vjy rec) N l0 x3 y4 t10 t11 t18 t19 t26 t27
def vjh (N : Nat) (k : Y1 → Int → Int → Z8) : Nat → Y1 → Int → Int → Int → Int → Int → Z8
  | 0, _, _, _, _, _, _ => none
  | m + 1, l0, x3, t10, t11, t18, t19 => vpa (vuh N (vjh N k m) k) k l0 x3 t10 t11 t18 t19
def vsv (N : Nat) (rec : Y1 → Int → Int → Z8) (k : Z8) (l0 : Y1) (x3 t10 t11 t18 t19 : Int) : Z8 := vjh N (vdb rec) N l0 x3 t10 t11 t18 t19
def vhi (N : Nat) (k : Z8) : Nat → Y1 → Int → Int → Z8
  | 0, _, _, _ => none
  | m + 1, l0, t10, t11 => vmt (vsv N (vhi N k m) k) k l0 t10 t11
def vais (N : Nat) (l0 : Y1) (t10 t11 : Int) : Z8 := vhi N (vde) N l0 t10 t11
def zz80 (N : Nat) (l_0 : Y1) : Z8 := vase (vais N) l_0
def S_zz80 : Sig := { a := (.pair (.opt (.pair (.sl (.sl .bool)) (.pair (.sl (.sl I)) (.pair (.sl (.sl I)) .unit)))) .unit), md := [0], mf := [], m := .unit, r := (.ns I), rf := .i, f := fun x => zz80 big x.1 }
def A_zz80 : Cfg := mkCfg tab [] [(4, [.as (.opt (.pair (.sl (.sl .bool)) (.pair (.sl (.sl I)) (.pair (.sl (.sl I)) .unit)))) .i, .drop, .drop, .drop, .drop, .drop, .drop, .drop, .drop, .drop, .as I .i, .as I .i]), (10, [.as (.opt (.pair (.sl (.sl .bool)) (.pair (.sl (.sl I)) (.pair (.sl (.sl I)) .unit)))) .i, .drop, .drop, .as I .i, .drop, .drop, .drop, .drop, .drop, .drop, .as I .i, .as I .i, .drop, .drop, .drop, .drop, .drop, .drop, .as I .i, .as I .i]), (31, []), (16, [.as (.opt (.pair (.sl (.sl .bool)) (.pair (.sl (.sl I)) (.pair (.sl (.sl I)) .unit)))) .i, .drop, .drop, .as I .i, .as I .i, .drop, .drop, .drop, .drop, .drop, .as I .i, .as I .i, .drop, .drop, .drop, .drop, .drop, .drop, .as I .i, .as I .i, .drop, .drop, .drop, .drop, .drop, .drop, .as I .i, .as I .i]), (29, [.as (.opt (.pair (.sl (.sl .bool)) (.pair (.sl (.sl I)) (.pair (.sl (.sl I)) .unit)))) .i, .drop, .drop, .drop, .drop, .drop, .drop, .drop, .drop, .drop, .as I .i, .as I .i]), (27, [.as (.opt (.pair (.sl (.sl .bool)) (.pair (.sl (.sl I)) (.pair (.sl (.sl I)) .unit)))) .i, .drop, .drop, .as I .i, .drop, .drop, .drop, .drop, .drop, .drop, .as I .i, .as I .i, .drop, .drop, .drop, .drop, .drop, .drop, .as I .i, .as I .i])]
noncomputable def vjb (N n : Nat) (K : Ex → St → Z8) (l0 : Y1) (t10 t11 : Int) : Z8 := iter ((A_zz80).shape 4) (run (A_zz80) N (codeAt Try.f127 [1, 0, 1, 0, 0])) n ([.val (.opt (.pair (.sl (.sl .bool)) (.pair (.sl (.sl I)) (.pair (.sl (.sl I)) .unit)))) .i l0, .u, .u, .u, .u, .u, .u, .u, .u, .u, .val I .i t10, .val I .i t11] ++ List.replicate 73 .u) K
noncomputable def vgx (N n : Nat) (K : Ex → St → Z8) (l0 : Y1) (x3 t10 t11 t18 t19 : Int) : Z8 := iter ((A_zz80).shape 10) (run (A_zz80) N (codeAt Try.f127 [1, 0, 1, 0, 0, 1, 1, 0, 0, 1, 1, 0, 0])) n ([.val (.opt (.pair (.sl (.sl .bool)) (.pair (.sl (.sl I)) (.pair (.sl (.sl I)) .unit)))) .i l0, .u, .u, .val I .i x3, .u, .u, .u, .u, .u, .u, .val I .i t10, .val I .i t11, .u, .u, .u, .u, .u, .u, .val I .i t18, .val I .i t19] ++ List.replicate 65 .u) K
noncomputable def vpp (N n : Nat) (K : Ex → St → Z8) (l0 : Y1) (x3 y4 t10 t11 t18 t19 t26 t27 : Int) : Z8 := iter ((A_zz80).shape 16) (run (A_zz80) N (codeAt Try.f127 [1, 0, 1, 0, 0, 1, 1, 0, 0, 1, 1, 0, 0, 1, 1, 0, 0, 1, 1, 0, 0])) n ([.val (.opt (.pair (.sl (.sl .bool)) (.pair (.sl (.sl I)) (.pair (.sl (.sl I)) .unit)))) .i l0, .u, .u, .val I .i x3, .val I .i y4, .u, .u, .u, .u, .u, .val I .i t10, .val I .i t11, .u, .u, .u, .u, .u, .u, .val I .i t18, .val I .i t19, .u, .u, .u, .u, .u, .u, .val I .i t26, .val I .i t27] ++ List.replicate 57 .u) K
noncomputable abbrev vxn : Ex → St → Z8 := finish (A_zz80) S_zz80 Try.f127.results.toList
noncomputable abbrev vhe (kX : St → Z8) : Z8 := kX ([] ++ List.replicate 85 .u)
noncomputable abbrev vfw (kX : St → Z8) (kO : Nat → St → Z8) : Ex → St → Z8 := exK vxn 0 ((A_zz80).shape 31) kX kO
noncomputable abbrev vgm (kX : St → Z8) : Y1 → Int → Int → Z8 := fun (l0 : Y1) (t10 t11 : Int) => kX ([.val (.opt (.pair (.sl (.sl .bool)) (.pair (.sl (.sl I)) (.pair (.sl (.sl I)) .unit)))) .i l0, .u, .u, .u, .u, .u, .u, .u, .u, .u, .val I .i t10, .val I .i t11] ++ List.replicate 73 .u)
noncomputable abbrev vjz (kX : St → Z8) (kO : Nat → St → Z8) : Ex → St → Z8 := exK vxn 2 ((A_zz80).shape 29) kX kO
noncomputable abbrev vur (kX : St → Z8) : Y1 → Int → Int → Int → Int → Int → Z8 := fun (l0 : Y1) (x3 t10 t11 t18 t19 : Int) => kX ([.val (.opt (.pair (.sl (.sl .bool)) (.pair (.sl (.sl I)) (.pair (.sl (.sl I)) .unit)))) .i l0, .u, .u, .val I .i x3, .u, .u, .u, .u, .u, .u, .val I .i t10, .val I .i t11, .u, .u, .u, .u, .u, .u, .val I .i t18, .val I .i t19] ++ List.replicate 65 .u)
noncomputable abbrev vyw (kX : St → Z8) (kO : Nat → St → Z8) : Ex → St → Z8 := exK vxn 4 ((A_zz80).shape 27) kX kO
theorem vbcm (N m : Nat) (kX : St → Z8) (kO : Nat → St → Z8) (l0 : Y1) (x3 y4 t10 t11 t18 t19 t26 t27 : Int) : vpp N (m + 1) (vyw kX kO) l0 x3 y4 t10 t11 t18 t19 t26 t27 = vmu (vpp N m (vyw kX kO)) (vur kX) l0 x3 y4 t10 t11 t18 t19 t26 t27 := by kernel_rfl
theorem vagc (N : Nat) (kX : St → Z8) (kO : Nat → St → Z8) : ∀ (n : Nat) (l0 : Y1) (x3 y4 t10 t11 t18 t19 t26 t27 : Int), vpp N n (vyw kX kO) l0 x3 y4 t10 t11 t18 t19 t26 t27 = vlq N (vur kX) n l0 x3 y4 t10 t11 t18 t19 t26 t27
  | 0, _, _, _, _, _, _, _, _, _ => rfl
  | m + 1, l0, x3, y4, t10, t11, t18, t19, t26, t27 => by
    have hrec : vpp N m (vyw kX kO) = (vlq N (vur kX) m) := (funext fun l0 => (funext fun x3 => (funext fun y4 => (funext fun t10 => (funext fun t11 => (funext fun t18 => (funext fun t19 => (funext fun t26 => (funext fun t27 => vagc N kX kO m l0 x3 y4 t10 t11 t18 t19 t26 t27)))))))))
    refine (vbcm N m kX kO l0 x3 y4 t10 t11 t18 t19 t26 t27).trans ?_
    rw [hrec]
    rfl
noncomputable abbrev vald (N m : Nat) (kX : St → Z8) (kO : Nat → St → Z8) : Ex → St → Z8 := (blockK 4 (blockK 3 (seqK ((A_zz80).shape 27) (gated ((A_zz80).shape 500013).isSome N (run (A_zz80) N (codeAt Try.f127 [1, 0, 1, 0, 0, 1, 1, 0, 0, 1, 1, 0, 0, 1, 1, 1]))) (iterK ((A_zz80).shape 10) (run (A_zz80) N (codeAt Try.f127 [1, 0, 1, 0, 0, 1, 1, 0, 0, 1, 1, 0, 0])) m (vjz kX kO)))))
noncomputable abbrev vamk (N m : Nat) (kX : St → Z8) (kO : Nat → St → Z8) : St → Z8 := fun st' => run (A_zz80) N (codeAt Try.f127 [1, 0, 1, 0, 0, 1, 1, 0, 0, 1, 1, 0, 0, 1, 1, 1]) st' (iterK ((A_zz80).shape 10) (run (A_zz80) N (codeAt Try.f127 [1, 0, 1, 0, 0, 1, 1, 0, 0, 1, 1, 0, 0])) m (vjz kX kO))
theorem vawa (N m : Nat) (kX : St → Z8) (kO : Nat → St → Z8) (l0 : Y1) (x3 t10 t11 t18 t19 : Int) : vur (vamk N m kX kO) l0 x3 t10 t11 t18 t19 = vjy (vgx N m (vjz kX kO)) l0 x3 t10 t11 t18 t19 := by kernel_rfl
theorem vbib (N m : Nat) (kX : St → Z8) (kO : Nat → St → Z8) (recF : Y1 → Int → Int → Int → Int → Int → Z8) (hrec : vgx N m (vjz kX kO) = recF) (l0 : Y1) (x3 y4 t10 t11 t18 t19 t26 t27 : Int) : vpp N N (vald N m kX kO) l0 x3 y4 t10 t11 t18 t19 t26 t27 = vuh N recF (vgm kX) l0 x3 y4 t10 t11 t18 t19 t26 t27 :=
  have h : vur (vamk N m kX kO) = (vjy recF) := (funext fun l0 => (funext fun x3 => (funext fun t10 => (funext fun t11 => (funext fun t18 => (funext fun t19 => (vawa N m kX kO l0 x3 t10 t11 t18 t19).trans (by rw [hrec])))))))
  ((vad (fun st => by kernel_rfl) (fun st => by kernel_rfl)).trans (vagc N (vamk N m kX kO) (fun j st => (vald N m kX kO) (.exit j) st) N l0 x3 y4 t10 t11 t18 t19 t26 t27)).trans (congrArg (fun k => vlq N k N l0 x3 y4 t10 t11 t18 t19 t26 t27) h)
theorem vbaw (N m : Nat) (kX : St → Z8) (kO : Nat → St → Z8) (l0 : Y1) (x3 t10 t11 t18 t19 : Int) : vgx N (m + 1) (vjz kX kO) l0 x3 t10 t11 t18 t19 = vpa (vpp N N (vald N m kX kO)) (vgm kX) l0 x3 t10 t11 t18 t19 := by kernel_rfl
theorem vaee (N : Nat) (kX : St → Z8) (kO : Nat → St → Z8) : ∀ (n : Nat) (l0 : Y1) (x3 t10 t11 t18 t19 : Int), vgx N n (vjz kX kO) l0 x3 t10 t11 t18 t19 = vjh N (vgm kX) n l0 x3 t10 t11 t18 t19
  | 0, _, _, _, _, _, _ => rfl
  | m + 1, l0, x3, t10, t11, t18, t19 => by
    have hrec : vgx N m (vjz kX kO) = (vjh N (vgm kX) m) := (funext fun l0 => (funext fun x3 => (funext fun t10 => (funext fun t11 => (funext fun t18 => (funext fun t19 => vaee N kX kO m l0 x3 t10 t11 t18 t19))))))
    refine (vbaw N m kX kO l0 x3 t10 t11 t18 t19).trans ?_
    rw [(funext fun l0 => (funext fun x3 => (funext fun y4 => (funext fun t10 => (funext fun t11 => (funext fun t18 => (funext fun t19 => (funext fun t26 => (funext fun t27 => vbib N m kX kO (vjh N (vgm kX) m) hrec l0 x3 y4 t10 t11 t18 t19 t26 t27)))))))))]
    rfl
noncomputable abbrev vaih (N m : Nat) (kX : St → Z8) (kO : Nat → St → Z8) : Ex → St → Z8 := (blockK 2 (blockK 1 (seqK ((A_zz80).shape 29) (gated ((A_zz80).shape 500014).isSome N (run (A_zz80) N (codeAt Try.f127 [1, 0, 1, 0, 0, 1, 1, 1]))) (iterK ((A_zz80).shape 4) (run (A_zz80) N (codeAt Try.f127 [1, 0, 1, 0, 0])) m (vfw kX kO)))))
noncomputable abbrev vali (N m : Nat) (kX : St → Z8) (kO : Nat → St → Z8) : St → Z8 := fun st' => run (A_zz80) N (codeAt Try.f127 [1, 0, 1, 0, 0, 1, 1, 1]) st' (iterK ((A_zz80).shape 4) (run (A_zz80) N (codeAt Try.f127 [1, 0, 1, 0, 0])) m (vfw kX kO))
theorem vayq (N m : Nat) (kX : St → Z8) (kO : Nat → St → Z8) (l0 : Y1) (t10 t11 : Int) : vgm (vali N m kX kO) l0 t10 t11 = vdb (vjb N m (vfw kX kO)) l0 t10 t11 := by kernel_rfl
theorem vble (N m : Nat) (kX : St → Z8) (kO : Nat → St → Z8) (recF : Y1 → Int → Int → Z8) (hrec : vjb N m (vfw kX kO) = recF) (l0 : Y1) (x3 t10 t11 t18 t19 : Int) : vgx N N (vaih N m kX kO) l0 x3 t10 t11 t18 t19 = vsv N recF (vhe kX) l0 x3 t10 t11 t18 t19 :=
  have h : vgm (vali N m kX kO) = (vdb recF) := (funext fun l0 => (funext fun t10 => (funext fun t11 => (vayq N m kX kO l0 t10 t11).trans (by rw [hrec]))))
  ((vad (fun st => by kernel_rfl) (fun st => by kernel_rfl)).trans (vaee N (vali N m kX kO) (fun j st => (vaih N m kX kO) (.exit j) st) N l0 x3 t10 t11 t18 t19)).trans (congrArg (fun k => vjh N k N l0 x3 t10 t11 t18 t19) h)
theorem vbac (N m : Nat) (kX : St → Z8) (kO : Nat → St → Z8) (l0 : Y1) (t10 t11 : Int) : vjb N (m + 1) (vfw kX kO) l0 t10 t11 = vmt (vgx N N (vaih N m kX kO)) (vhe kX) l0 t10 t11 := by kernel_rfl
theorem vacv (N : Nat) (kX : St → Z8) (kO : Nat → St → Z8) : ∀ (n : Nat) (l0 : Y1) (t10 t11 : Int), vjb N n (vfw kX kO) l0 t10 t11 = vhi N (vhe kX) n l0 t10 t11
  | 0, _, _, _ => rfl
  | m + 1, l0, t10, t11 => by
    have hrec : vjb N m (vfw kX kO) = (vhi N (vhe kX) m) := (funext fun l0 => (funext fun t10 => (funext fun t11 => vacv N kX kO m l0 t10 t11)))
    refine (vbac N m kX kO l0 t10 t11).trans ?_
    rw [(funext fun l0 => (funext fun x3 => (funext fun t10 => (funext fun t11 => (funext fun t18 => (funext fun t19 => vble N m kX kO (vhi N (vhe kX) m) hrec l0 x3 t10 t11 t18 t19))))))]
    rfl
noncomputable abbrev vaka (N : Nat) : Ex → St → Z8 := (blockK 0 (seqK ((A_zz80).shape 31) (gated ((A_zz80).shape 500015).isSome N (run (A_zz80) N (codeAt Try.f127 [1, 1]))) vxn))
noncomputable abbrev valt (N : Nat) : St → Z8 := fun st' => run (A_zz80) N (codeAt Try.f127 [1, 1]) st' vxn
theorem vaxr (N : Nat) : vhe (valt N) = vde := by kernel_rfl
theorem vbjx (N : Nat) (l0 : Y1) (t10 t11 : Int) : vjb N N (vaka N) l0 t10 t11 = vais N l0 t10 t11 :=
  have h : vhe (valt N) = (vde) := vaxr N
  ((vad (fun st => by kernel_rfl) (fun st => by kernel_rfl)).trans (vacv N (valt N) (fun j st => (vaka N) (.exit j) st) N l0 t10 t11)).trans (congrArg (fun k => vhi N k N l0 t10 t11) h)
theorem run0_zz80 (N : Nat) (x : (S_zz80).a.den) : runF (A_zz80) N Try.f127 S_zz80 x = (vase (vjb N N (vaka N)) x.1) := by kernel_rfl
theorem run_zz80 (N : Nat) (x : (S_zz80).a.den) : runF (A_zz80) N Try.f127 S_zz80 x = zz80 N x.1 := by
  refine (run0_zz80 N x).trans ?_
  rw [(funext fun l0 => (funext fun t10 => (funext fun t11 => vbjx N l0 t10 t11)))]
  rfl
theorem fn_zz80 : FnOk Try.prog 127 := ⟨_, Try.func127, by kernel_rfl, by kernel_rfl⟩
theorem good_zz80 : Gx.Good Try.prog 127 S_zz80 := vaa Try.func127 (of_decide_eq_true (by kernel_rfl)) fun x r h => ⟨A_zz80, big, vac tabOk, vab (show SigsOk Try.prog [] from trivial), (run_zz80 big x).trans h⟩
def vbgc (p_0 : Y2) : Option ((Y1 × (Bool × Unit)) × Unit) :=
  (zz32 p_0).bind fun rq1 =>
  cond rq1.1.2.1
  ((zz80 big rq1.1.1).bind fun rq2 =>
  some ((rq1.1.1, rq2.1.isNone, ()), (())))
  (some ((rq1.1.1, false, ()), (())))
def zz81 (p_0 : Y2) : Option ((Y1 × (Bool × Unit)) × Unit) := vbgc p_0
def S_zz81 : Sig := { a := (.pair (.pair (.sl (.sl I)) .unit) .unit), md := [0], mf := [], m := .unit, r := (.tup (.pair (.opt (.pair (.sl (.sl .bool)) (.pair (.sl (.sl I)) (.pair (.sl (.sl I)) .unit)))) (.pair .bool .unit))), rf := .i, f := fun x => zz81 x.1 }
def A_zz81 : Cfg := mkCfg tab [(51, S_zz32), (127, S_zz80)] []
theorem run_zz81 (N : Nat) (x : (S_zz81).a.den) : runF (A_zz81) N Try.f117 S_zz81 x = zz81 x.1 := by kernel_rfl
theorem fn_zz81 : FnOk Try.prog 117 := ⟨_, Try.func117, by kernel_rfl, by kernel_rfl⟩
theorem good_zz81 : Gx.Good Try.prog 117 S_zz81 := vaa Try.func117 (of_decide_eq_true (by kernel_rfl)) fun x r h => ⟨A_zz81, big, vac tabOk, vab (show SigsOk Try.prog [(51, S_zz32), (127, S_zz80)] from ⟨⟨fn_zz32, good_zz32⟩, ⟨fn_zz80, good_zz80⟩, trivial⟩), (run_zz81 big x).trans h⟩
def vbfj (p_0 : Y2) : Option ((Y1 × (Bool × Unit)) × Unit) :=
  (zz81 p_0).bind fun rq1 =>
  cond rq1.1.2.1
  ((zz64 rq1.1.1).bind fun rq2 =>
  some ((rq1.1.1, rq2.1, ()), (())))
  (some ((rq1.1.1, false, ()), (())))
def zz82 (p_0 : Y2) : Option ((Y1 × (Bool × Unit)) × Unit) := vbfj p_0
def S_zz82 : Sig := { a := (.pair (.pair (.sl (.sl I)) .unit) .unit), md := [0], mf := [], m := .unit, r := (.tup (.pair (.opt (.pair (.sl (.sl .bool)) (.pair (.sl (.sl I)) (.pair (.sl (.sl I)) .unit)))) (.pair .bool .unit))), rf := .i, f := fun x => zz82 x.1 }
def A_zz82 : Cfg := mkCfg tab [(117, S_zz81), (68, S_zz64)] []
theorem run_zz82 (N : Nat) (x : (S_zz82).a.den) : runF (A_zz82) N Try.f79 S_zz82 x = zz82 x.1 := by kernel_rfl
theorem fn_zz82 : FnOk Try.prog 79 := ⟨_, Try.func79, by kernel_rfl, by kernel_rfl⟩
theorem good_zz82 : Gx.Good Try.prog 79 S_zz82 := vaa Try.func79 (of_decide_eq_true (by kernel_rfl)) fun x r h => ⟨A_zz82, big, vac tabOk, vab (show SigsOk Try.prog [(117, S_zz81), (68, S_zz64)] from ⟨⟨fn_zz81, good_zz81⟩, ⟨fn_zz64, good_zz64⟩, trivial⟩), (run_zz82 big x).trans h⟩
def vbej (p_0 : Y2) : Z0 :=
  (zz32 p_0).bind fun rq1 =>
  some (rq1.1.2.1, (()))
def zz83 (p_0 : Y2) : Z0 := vbej p_0
def S_zz83 : Sig := { a := (.pair (.pair (.sl (.sl I)) .unit) .unit), md := [0], mf := [], m := .unit, r := .bool, rf := .i, f := fun x => zz83 x.1 }
def A_zz83 : Cfg := mkCfg tab [(51, S_zz32)] []
theorem run_zz83 (N : Nat) (x : (S_zz83).a.den) : runF (A_zz83) N Try.f80 S_zz83 x = zz83 x.1 := by kernel_rfl
theorem fn_zz83 : FnOk Try.prog 80 := ⟨_, Try.func80, by kernel_rfl, by kernel_rfl⟩
theorem good_zz83 : Gx.Good Try.prog 80 S_zz83 := vaa Try.func80 (of_decide_eq_true (by kernel_rfl)) fun x r h => ⟨A_zz83, big, vac tabOk, vab (show SigsOk Try.prog [(51, S_zz32)] from ⟨⟨fn_zz32, good_zz32⟩, trivial⟩), (run_zz83 big x).trans h⟩
def vbgq (p_0 : Y2) : Z2 :=
  (zz82 p_0).bind fun rq1 =>
  (zz83 p_0).bind fun rq2 =>
  some ((rq1.1.2.1, rq2.1, ()), (()))
def zz84 (p_0 : Y2) : Z2 := vbgq p_0
def S_zz84 : Sig := { a := (.pair (.pair (.sl (.sl I)) .unit) .unit), md := [0], mf := [], m := .unit, r := (.tup (.pair .bool (.pair .bool .unit))), rf := .i, f := fun x => zz84 x.1 }
def A_zz84 : Cfg := mkCfg tab [(79, S_zz82), (80, S_zz83)] []
theorem run_zz84 (N : Nat) (x : (S_zz84).a.den) : runF (A_zz84) N Try.f29 S_zz84 x = zz84 x.1 := by kernel_rfl
theorem fn_zz84 : FnOk Try.prog 29 := ⟨_, Try.func29, by kernel_rfl, by kernel_rfl⟩
theorem good_zz84 : Gx.Good Try.prog 29 S_zz84 := vaa Try.func29 (of_decide_eq_true (by kernel_rfl)) fun x r h => ⟨A_zz84, big, vac tabOk, vab (show SigsOk Try.prog [(79, S_zz82), (80, S_zz83)] from ⟨⟨fn_zz82, good_zz82⟩, ⟨fn_zz83, good_zz83⟩, trivial⟩), (run_zz84 big x).trans h⟩
def vbgb (c_0 : Z13) (p_1 : Y2) : Option (Int × (Z13 × Unit)) :=
  cond (decide ((p_1.1.length : Int) = (0 : Int)))
  ((zz4 c_0 [(-1 : Int), (p_1.1.length : Int)]).bind fun rq1 =>
  some (rq1.1, (rq1.2.1, ())))
  ((zz3 c_0 (24 : Int)).bind fun rq2 =>
  cond rq2.1
  ((zz4 rq2.2.1 [(-1 : Int), (p_1.1.length : Int)]).bind fun rq3 =>
  some (rq3.1, (rq3.2.1, ())))
  ((zz2 rq2.2.1 (p_1.1.length : Int)).bind fun rq4 =>
  some (rq4.1, (rq4.2.1, ()))))
def zz85 (c_0 : Z13) (p_1 : Y2) : Option (Int × (Z13 × Unit)) := vbgb c_0 p_1
def S_zz85 : Sig := { a := (.pair (.ptr (.pair (.sl (.int .u8)) (.pair I (.pair (.int .u64) .unit)))) (.pair (.pair (.sl (.sl I)) .unit) .unit)), md := [1, 0], mf := [(.o .i)], m := (.pair (.ptr (.pair (.sl (.int .u8)) (.pair I (.pair (.int .u64) .unit)))) .unit), r := I, rf := .i, f := fun x => zz85 x.1 x.2.1 }
def A_zz85 : Cfg := mkCfg tab [(87, S_zz4), (50, S_zz3), (39, S_zz2)] []
theorem run_zz85 (N : Nat) (x : (S_zz85).a.den) : runF (A_zz85) N Try.f49 S_zz85 x = zz85 x.1 x.2.1 := by kernel_rfl
theorem fn_zz85 : FnOk Try.prog 49 := ⟨_, Try.func49, by kernel_rfl, by kernel_rfl⟩
theorem good_zz85 : Gx.Good Try.prog 49 S_zz85 := vaa Try.func49 (of_decide_eq_true (by kernel_rfl)) fun x r h => ⟨A_zz85, big, vac tabOk, vab (show SigsOk Try.prog [(87, S_zz4), (50, S_zz3), (39, S_zz2)] from ⟨⟨fn_zz4, good_zz4⟩, ⟨fn_zz3, good_zz3⟩, ⟨fn_zz2, good_zz2⟩, trivial⟩), (run_zz85 big x).trans h⟩
def vbgd (code_0 : Y4) : Option ((Y2 × (Int × Unit)) × Unit) :=
  (zz19 big (code_0, ((0 : Int), ((0 : Int), ())))).bind fun rq1 =>
  (zz85 rq1.2.1 rq1.1).bind fun rq2 =>
  some ((rq1.1, rq2.1, ()), (()))
def zz86 (code_0 : Y4) : Option ((Y2 × (Int × Unit)) × Unit) := vbgd code_0
def S_zz86 : Sig := { a := (.pair (.sl (.int .u8)) .unit), md := [0], mf := [], m := .unit, r := (.tup (.pair (.pair (.sl (.sl I)) .unit) (.pair I .unit))), rf := .i, f := fun x => zz86 x.1 }
def A_zz86 : Cfg := mkCfg tab [(48, S_zz19), (49, S_zz85)] []
theorem run_zz86 (N : Nat) (x : (S_zz86).a.den) : runF (A_zz86) N Try.f81 S_zz86 x = zz86 x.1 := by kernel_rfl
theorem fn_zz86 : FnOk Try.prog 81 := ⟨_, Try.func81, by kernel_rfl, by kernel_rfl⟩
theorem good_zz86 : Gx.Good Try.prog 81 S_zz86 := vaa Try.func81 (of_decide_eq_true (by kernel_rfl)) fun x r h => ⟨A_zz86, big, vac tabOk, vab (show SigsOk Try.prog [(48, S_zz19), (49, S_zz85)] from ⟨⟨fn_zz19, good_zz19⟩, ⟨fn_zz85, good_zz85⟩, trivial⟩), (run_zz86 big x).trans h⟩
def vbee (code_0 : Y4) : Option ((Y2 × (Int × Unit)) × Unit) :=
  (zz86 code_0).bind fun rq1 =>
  some ((rq1.1.1, rq1.1.2.1, ()), (()))
def zz87 (code_0 : Y4) : Option ((Y2 × (Int × Unit)) × Unit) := vbee code_0
def S_zz87 : Sig := { a := (.pair (.sl (.int .u8)) .unit), md := [0], mf := [], m := .unit, r := (.tup (.pair (.pair (.sl (.sl I)) .unit) (.pair I .unit))), rf := .i, f := fun x => zz87 x.1 }
def A_zz87 : Cfg := mkCfg tab [(81, S_zz86)] []
theorem run_zz87 (N : Nat) (x : (S_zz87).a.den) : runF (A_zz87) N Try.f30 S_zz87 x = zz87 x.1 := by kernel_rfl
theorem fn_zz87 : FnOk Try.prog 30 := ⟨_, Try.func30, by kernel_rfl, by kernel_rfl⟩
theorem good_zz87 : Gx.Good Try.prog 30 S_zz87 := vaa Try.func30 (of_decide_eq_true (by kernel_rfl)) fun x r h => ⟨A_zz87, big, vac tabOk, vab (show SigsOk Try.prog [(81, S_zz86)] from ⟨⟨fn_zz86, good_zz86⟩, trivial⟩), (run_zz87 big x).trans h⟩
def vbfq (o_0 : Y5) (list_1 : Y4) : Z0 :=
  (zz24 big list_1 (o_0.length : Int)).bind fun rq1 =>
  some (rq1.1, (()))
def zz88 (o_0 : Y5) (list_1 : Y4) : Z0 := vbfq o_0 list_1
def S_zz88 : Sig := { a := (.pair (.sl (.sl .bool)) (.pair (.sl I) .unit)), md := [0, 0], mf := [], m := .unit, r := .bool, rf := .i, f := fun x => zz88 x.1 x.2.1 }
def A_zz88 : Cfg := mkCfg tab [(101, S_zz24)] []
theorem run_zz88 (N : Nat) (x : (S_zz88).a.den) : runF (A_zz88) N Try.f52 S_zz88 x = zz88 x.1 x.2.1 := by kernel_rfl
theorem fn_zz88 : FnOk Try.prog 52 := ⟨_, Try.func52, by kernel_rfl, by kernel_rfl⟩
theorem good_zz88 : Gx.Good Try.prog 52 S_zz88 := vaa Try.func52 (of_decide_eq_true (by kernel_rfl)) fun x r h => ⟨A_zz88, big, vac tabOk, vab (show SigsOk Try.prog [(101, S_zz24)] from ⟨⟨fn_zz24, good_zz24⟩, trivial⟩), (run_zz88 big x).trans h⟩
def vbgt (p_0 : Y2) (x_1 : Int) : Z7 :=
  (zz32 p_0).bind fun rq1 =>
  cond (!rq1.1.2.1)
  (some (([], false, ()), (())))
  ((rq1.1.1).bind fun xq2 =>
  (zz88 xq2.1 [x_1]).bind fun rq3 =>
  cond (!rq3.1)
  (some (([], false, ()), (())))
  ((zz38 rq1.1.1 x_1).bind fun rq4 =>
  some ((rq4.1, true, ()), (()))))
def zz89 (p_0 : Y2) (x_1 : Int) : Z7 := vbgt p_0 x_1
def S_zz89 : Sig := { a := (.pair (.pair (.sl (.sl I)) .unit) (.pair I .unit)), md := [0, 0], mf := [], m := .unit, r := (.tup (.pair (.sl I) (.pair .bool .unit))), rf := (.p (.o .i) .i), f := fun x => zz89 x.1 x.2.1 }
def A_zz89 : Cfg := mkCfg tab [(51, S_zz32), (52, S_zz88), (73, S_zz38)] []
theorem run_zz89 (N : Nat) (x : (S_zz89).a.den) : runF (A_zz89) N Try.f31 S_zz89 x = zz89 x.1 x.2.1 := by kernel_rfl
theorem fn_zz89 : FnOk Try.prog 31 := ⟨_, Try.func31, by kernel_rfl, by kernel_rfl⟩
theorem good_zz89 : Gx.Good Try.prog 31 S_zz89 := vaa Try.func31 (of_decide_eq_true (by kernel_rfl)) fun x r h => ⟨A_zz89, big, vac tabOk, vab (show SigsOk Try.prog [(51, S_zz32), (52, S_zz88), (73, S_zz38)] from ⟨⟨fn_zz32, good_zz32⟩, ⟨fn_zz88, good_zz88⟩, ⟨fn_zz38, good_zz38⟩, trivial⟩), (run_zz89 big x).trans h⟩
def vbfy (p_0 : Y2) (x_1 : Int) : Z0 :=
  cond (decide ((0 : Int) ≤ x_1))
  (some (decide (x_1 < (p_0.1.length : Int)), (())))
  (some (false, (())))
def zz90 (p_0 : Y2) (x_1 : Int) : Z0 := vbfy p_0 x_1
def S_zz90 : Sig := { a := (.pair (.pair (.sl (.sl I)) .unit) (.pair I .unit)), md := [0, 0], mf := [], m := .unit, r := .bool, rf := .i, f := fun x => zz90 x.1 x.2.1 }
def A_zz90 : Cfg := mkCfg tab [] []
theorem run_zz90 (N : Nat) (x : (S_zz90).a.den) : runF (A_zz90) N Try.f83 S_zz90 x = zz90 x.1 x.2.1 := by kernel_rfl
theorem fn_zz90 : FnOk Try.prog 83 := ⟨_, Try.func83, by kernel_rfl, by kernel_rfl⟩
theorem good_zz90 : Gx.Good Try.prog 83 S_zz90 := vaa Try.func83 (of_decide_eq_true (by kernel_rfl)) fun x r h => ⟨A_zz90, big, vac tabOk, vab (show SigsOk Try.prog [] from trivial), (run_zz90 big x).trans h⟩
def vaqj (p_0 : Y2) (x_1 y_2 : Int) : Z0 :=
  (zz52 big p_0).bind fun rq1 =>
  cond rq1.1
  ((zz90 p_0 x_1).bind fun rq2 =>
  cond rq2.1
  ((zz90 p_0 y_2).bind fun rq3 =>
  some (rq3.1, (())))
  (some (false, (()))))
  (some (false, (())))
def zz91 (p_0 : Y2) (x_1 y_2 : Int) : Z0 := vaqj p_0 x_1 y_2
def S_zz91 : Sig := { a := (.pair (.pair (.sl (.sl I)) .unit) (.pair I (.pair I .unit))), md := [0, 0, 0], mf := [], m := .unit, r := .bool, rf := .i, f := fun x => zz91 x.1 x.2.1 x.2.2.1 }
def A_zz91 : Cfg := mkCfg tab [(55, S_zz52), (83, S_zz90)] []
theorem run_zz91 (N : Nat) (x : (S_zz91).a.den) : runF (A_zz91) N Try.f82 S_zz91 x = zz91 x.1 x.2.1 x.2.2.1 := by kernel_rfl
theorem fn_zz91 : FnOk Try.prog 82 := ⟨_, Try.func82, by kernel_rfl, by kernel_rfl⟩
theorem good_zz91 : Gx.Good Try.prog 82 S_zz91 := vaa Try.func82 (of_decide_eq_true (by kernel_rfl)) fun x r h => ⟨A_zz91, big, vac tabOk, vab (show SigsOk Try.prog [(55, S_zz52), (83, S_zz90)] from ⟨⟨fn_zz52, good_zz52⟩, ⟨fn_zz90, good_zz90⟩, trivial⟩), (run_zz91 big x).trans h⟩
def vbfu (p_0 : Y2) (x_1 : Int) : Z7 :=
  (zz91 p_0 x_1 x_1).bind fun rq1 =>
  cond (!rq1.1)
  (some (([], false, ()), (())))
  ((zz53 p_0).bind fun rq2 =>
  (zz54 p_0).bind fun rq3 =>
  (zz57 big p_0 rq2.1 x_1 rq3.1).bind fun rq4 =>
  some ((rq4.1, true, ()), (())))
def zz92 (p_0 : Y2) (x_1 : Int) : Z7 := vbfu p_0 x_1
def S_zz92 : Sig := { a := (.pair (.pair (.sl (.sl I)) .unit) (.pair I .unit)), md := [0, 0], mf := [], m := .unit, r := (.tup (.pair (.sl I) (.pair .bool .unit))), rf := (.p (.o .i) .i), f := fun x => zz92 x.1 x.2.1 }
def A_zz92 : Cfg := mkCfg tab [(82, S_zz91), (65, S_zz53), (66, S_zz54), (64, S_zz57)] []
theorem run_zz92 (N : Nat) (x : (S_zz92).a.den) : runF (A_zz92) N Try.f32 S_zz92 x = zz92 x.1 x.2.1 := by kernel_rfl
theorem fn_zz92 : FnOk Try.prog 32 := ⟨_, Try.func32, by kernel_rfl, by kernel_rfl⟩
theorem good_zz92 : Gx.Good Try.prog 32 S_zz92 := vaa Try.func32 (of_decide_eq_true (by kernel_rfl)) fun x r h => ⟨A_zz92, big, vac tabOk, vab (show SigsOk Try.prog [(82, S_zz91), (65, S_zz53), (66, S_zz54), (64, S_zz57)] from ⟨⟨fn_zz91, good_zz91⟩, ⟨fn_zz53, good_zz53⟩, ⟨fn_zz54, good_zz54⟩, ⟨fn_zz57, good_zz57⟩, trivial⟩), (run_zz92 big x).trans h⟩
def vup (rec : Y4 → Int → Int → Z0) (k : Z0) (l0 : Y4) (x1 i5 : Int) : Z0 :=
  cond (decide (i5 < (l0.length : Int)))
  ((atI l0 i5).bind fun xq1 =>
  cond (decide (xq1 = x1))
  (some (true, (())))
  (rec l0 x1 (IntKind.i64.wrap (i5 + (1 : Int)))))
  (k)
def vpr : Z0 :=
  some (false, (()))
def vatb (L2 : Y4 → Int → Int → Z0) (l_0 : Y4) (x_1 : Int) : Z0 :=
  L2 l_0 x_1 (0 : Int)
def vpt (N : Nat) (k : Z0) : Nat → Y4 → Int → Int → Z0
  | 0, _, _, _ => none
  | m + 1, l0, x1, i5 => vup (vpt N k m) k l0 x1 i5
def vagl (N : Nat) (l0 : Y4) (x1 i5 : Int) : Z0 := vpt N (vpr) N l0 x1 i5
def zz93 (N : Nat) (l_0 : Y4) (x_1 : Int) : Z0 := vatb (vagl N) l_0 x_1
def S_zz93 : Sig := { a := (.pair (.sl I) (.pair I .unit)), md := [0, 0], mf := [], m := .unit, r := .bool, rf := .i, f := fun x => zz93 big x.1 x.2.1 }
def A_zz93 : Cfg := mkCfg tab [] [(4, [.as (.sl I) .i, .as I .i, .drop, .drop, .drop, .as I .i]), (13, [])]
noncomputable def vnu (N n : Nat) (K : Ex → St → Z0) (l0 : Y4) (x1 i5 : Int) : Z0 := iter ((A_zz93).shape 4) (run (A_zz93) N (codeAt Try.f33 [1, 0, 1, 0, 0])) n ([.val (.sl I) .i l0, .val I .i x1, .u, .u, .u, .val I .i i5] ++ List.replicate 12 .u) K
noncomputable abbrev vatp : Ex → St → Z0 := finish (A_zz93) S_zz93 Try.f33.results.toList
noncomputable abbrev vuo (kX : St → Z0) : Z0 := kX ([] ++ List.replicate 18 .u)
noncomputable abbrev vzg (kX : St → Z0) (kO : Nat → St → Z0) : Ex → St → Z0 := exK vatp 0 ((A_zz93).shape 13) kX kO
theorem vbat (N m : Nat) (kX : St → Z0) (kO : Nat → St → Z0) (l0 : Y4) (x1 i5 : Int) : vnu N (m + 1) (vzg kX kO) l0 x1 i5 = vup (vnu N m (vzg kX kO)) (vuo kX) l0 x1 i5 := by kernel_rfl
theorem vage (N : Nat) (kX : St → Z0) (kO : Nat → St → Z0) : ∀ (n : Nat) (l0 : Y4) (x1 i5 : Int), vnu N n (vzg kX kO) l0 x1 i5 = vpt N (vuo kX) n l0 x1 i5
  | 0, _, _, _ => rfl
  | m + 1, l0, x1, i5 => by
    have hrec : vnu N m (vzg kX kO) = (vpt N (vuo kX) m) := (funext fun l0 => (funext fun x1 => (funext fun i5 => vage N kX kO m l0 x1 i5)))
    refine (vbat N m kX kO l0 x1 i5).trans ?_
    rw [hrec]
    rfl
noncomputable abbrev vajb (N : Nat) : Ex → St → Z0 := (blockK 0 (seqK ((A_zz93).shape 13) (gated ((A_zz93).shape 500006).isSome N (run (A_zz93) N (codeAt Try.f33 [1, 1]))) vatp))
noncomputable abbrev vagy (N : Nat) : St → Z0 := fun st' => run (A_zz93) N (codeAt Try.f33 [1, 1]) st' vatp
theorem vawy (N : Nat) : vuo (vagy N) = vpr := by kernel_rfl
theorem vbkd (N : Nat) (l0 : Y4) (x1 i5 : Int) : vnu N N (vajb N) l0 x1 i5 = vagl N l0 x1 i5 :=
  have h : vuo (vagy N) = (vpr) := vawy N
  ((vad (fun st => by kernel_rfl) (fun st => by kernel_rfl)).trans (vage N (vagy N) (fun j st => (vajb N) (.exit j) st) N l0 x1 i5)).trans (congrArg (fun k => vpt N k N l0 x1 i5) h)
theorem run0_zz93 (N : Nat) (x : (S_zz93).a.den) : runF (A_zz93) N Try.f33 S_zz93 x = (vatb (vnu N N (vajb N)) x.1 x.2.1) := by kernel_rfl
theorem run_zz93 (N : Nat) (x : (S_zz93).a.den) : runF (A_zz93) N Try.f33 S_zz93 x = zz93 N x.1 x.2.1 := by
  refine (run0_zz93 N x).trans ?_
  rw [(funext fun l0 => (funext fun x1 => (funext fun i5 => vbkd N l0 x1 i5)))]
  rfl
theorem fn_zz93 : FnOk Try.prog 33 := ⟨_, Try.func33, by kernel_rfl, by kernel_rfl⟩
theorem good_zz93 : Gx.Good Try.prog 33 S_zz93 := vaa Try.func33 (of_decide_eq_true (by kernel_rfl)) fun x r h => ⟨A_zz93, big, vac tabOk, vab (show SigsOk Try.prog [] from trivial), (run_zz93 big x).trans h⟩
def vbhq (code_0 : Y4) : Option ((Y2 × (Int × Z1)) × Unit) :=
  (zz19 big (code_0, ((0 : Int), ((0 : Int), ())))).bind fun rq1 =>
  (zz85 rq1.2.1 rq1.1).bind fun rq2 =>
  (zz85 rq2.2.1 rq1.1).bind fun rq3 =>
  (zz85 rq3.2.1 rq1.1).bind fun rq4 =>
  (zz91 rq1.1 rq2.1 rq3.1).bind fun rq5 =>
  cond rq5.1
  ((zz90 rq1.1 rq4.1).bind fun rq6 =>
  cond rq6.1
  ((zz3 rq4.2.1 (4 : Int)).bind fun rq7 =>
  cond (!rq7.1)
  ((zz55 rq1.1 rq2.1 rq3.1).bind fun rq8 =>
  (zz56 rq1.1 rq3.1 rq4.1).bind fun rq9 =>
  some ((rq1.1, rq8.1, rq3.1, rq9.1, ()), (())))
  (some ((rq1.1, rq2.1, rq3.1, rq4.1, ()), (()))))
  (some ((rq1.1, rq2.1, rq3.1, rq4.1, ()), (()))))
  (some ((rq1.1, rq2.1, rq3.1, rq4.1, ()), (())))
def zz94 (code_0 : Y4) : Option ((Y2 × (Int × Z1)) × Unit) := vbhq code_0
def S_zz94 : Sig := { a := (.pair (.sl (.int .u8)) .unit), md := [0], mf := [], m := .unit, r := (.tup (.pair (.pair (.sl (.sl I)) .unit) (.pair I (.pair I (.pair I .unit))))), rf := .i, f := fun x => zz94 x.1 }
def A_zz94 : Cfg := mkCfg tab [(48, S_zz19), (49, S_zz85), (82, S_zz91), (83, S_zz90), (50, S_zz3), (84, S_zz55), (85, S_zz56)] []
theorem run_zz94 (N : Nat) (x : (S_zz94).a.den) : runF (A_zz94) N Try.f34 S_zz94 x = zz94 x.1 := by kernel_rfl
theorem fn_zz94 : FnOk Try.prog 34 := ⟨_, Try.func34, by kernel_rfl, by kernel_rfl⟩
theorem good_zz94 : Gx.Good Try.prog 34 S_zz94 := vaa Try.func34 (of_decide_eq_true (by kernel_rfl)) fun x r h => ⟨A_zz94, big, vac tabOk, vab (show SigsOk Try.prog [(48, S_zz19), (49, S_zz85), (82, S_zz91), (83, S_zz90), (50, S_zz3), (84, S_zz55), (85, S_zz56)] from ⟨⟨fn_zz19, good_zz19⟩, ⟨fn_zz85, good_zz85⟩, ⟨fn_zz91, good_zz91⟩, ⟨fn_zz90, good_zz90⟩, ⟨fn_zz3, good_zz3⟩, ⟨fn_zz55, good_zz55⟩, ⟨fn_zz56, good_zz56⟩, trivial⟩), (run_zz94 big x).trans h⟩
def vbgh (p_0 : Y2) (x_1 y_2 z_3 : Int) : Z7 :=
  (zz32 p_0).bind fun rq1 =>
  cond (!rq1.1.2.1)
  (some (([], false, ()), (())))
  ((rq1.1.1).bind fun xq2 =>
  (zz88 xq2.1 [x_1, y_2, z_3]).bind fun rq3 =>
  cond (!rq3.1)
  (some (([], false, ()), (())))
  ((rq1.1.1).bind fun xq4 =>
  (atI xq4.1 x_1).bind fun xq5 =>
  (atI xq5 y_2).bind fun xq6 =>
  cond (!xq6)
  (some (([], false, ()), (())))
  ((rq1.1.1).bind fun xq7 =>
  (atI xq7.1 y_2).bind fun xq8 =>
  (atI xq8 z_3).bind fun xq9 =>
  cond (!xq9)
  (some (([], false, ()), (())))
  ((zz37 rq1.1.1 x_1 y_2 z_3).bind fun rq10 =>
  some ((rq10.1, true, ()), (()))))))
def zz95 (p_0 : Y2) (x_1 y_2 z_3 : Int) : Z7 := vbgh p_0 x_1 y_2 z_3
def S_zz95 : Sig := { a := (.pair (.pair (.sl (.sl I)) .unit) (.pair I (.pair I (.pair I .unit)))), md := [0, 0, 0, 0], mf := [], m := .unit, r := (.tup (.pair (.sl I) (.pair .bool .unit))), rf := (.p (.o .i) .i), f := fun x => zz95 x.1 x.2.1 x.2.2.1 x.2.2.2.1 }
def A_zz95 : Cfg := mkCfg tab [(51, S_zz32), (52, S_zz88), (77, S_zz37)] []
theorem run_zz95 (N : Nat) (x : (S_zz95).a.den) : runF (A_zz95) N Try.f35 S_zz95 x = zz95 x.1 x.2.1 x.2.2.1 x.2.2.2.1 := by kernel_rfl
theorem fn_zz95 : FnOk Try.prog 35 := ⟨_, Try.func35, by kernel_rfl, by kernel_rfl⟩
theorem good_zz95 : Gx.Good Try.prog 35 S_zz95 := vaa Try.func35 (of_decide_eq_true (by kernel_rfl)) fun x r h => ⟨A_zz95, big, vac tabOk, vab (show SigsOk Try.prog [(51, S_zz32), (52, S_zz88), (77, S_zz37)] from ⟨⟨fn_zz32, good_zz32⟩, ⟨fn_zz88, good_zz88⟩, ⟨fn_zz37, good_zz37⟩, trivial⟩), (run_zz95 big x).trans h⟩
def vbea (p_0 : Y2) (x_1 y_2 z_3 : Int) : Z7 :=
  (zz91 p_0 x_1 y_2).bind fun rq1 =>
  cond (!rq1.1)
  (some (([], false, ()), (())))
  ((zz90 p_0 z_3).bind fun rq2 =>
  cond (!rq2.1)
  (some (([], false, ()), (())))
  ((zz15 p_0 x_1 y_2).bind fun rq3 =>
  cond (!rq3.1)
  (some (([], false, ()), (())))
  ((zz15 p_0 y_2 z_3).bind fun rq4 =>
  cond (!rq4.1)
  (some (([], false, ()), (())))
  ((zz57 big p_0 x_1 y_2 z_3).bind fun rq5 =>
  some ((rq5.1, true, ()), (()))))))
def zz96 (p_0 : Y2) (x_1 y_2 z_3 : Int) : Z7 := vbea p_0 x_1 y_2 z_3
def S_zz96 : Sig := { a := (.pair (.pair (.sl (.sl I)) .unit) (.pair I (.pair I (.pair I .unit)))), md := [0, 0, 0, 0], mf := [], m := .unit, r := (.tup (.pair (.sl I) (.pair .bool .unit))), rf := (.p (.o .i) .i), f := fun x => zz96 x.1 x.2.1 x.2.2.1 x.2.2.2.1 }
def A_zz96 : Cfg := mkCfg tab [(82, S_zz91), (83, S_zz90), (78, S_zz15), (64, S_zz57)] []
theorem run_zz96 (N : Nat) (x : (S_zz96).a.den) : runF (A_zz96) N Try.f36 S_zz96 x = zz96 x.1 x.2.1 x.2.2.1 x.2.2.2.1 := by kernel_rfl
theorem fn_zz96 : FnOk Try.prog 36 := ⟨_, Try.func36, by kernel_rfl, by kernel_rfl⟩
theorem good_zz96 : Gx.Good Try.prog 36 S_zz96 := vaa Try.func36 (of_decide_eq_true (by kernel_rfl)) fun x r h => ⟨A_zz96, big, vac tabOk, vab (show SigsOk Try.prog [(82, S_zz91), (83, S_zz90), (78, S_zz15), (64, S_zz57)] from ⟨⟨fn_zz91, good_zz91⟩, ⟨fn_zz90, good_zz90⟩, ⟨fn_zz15, good_zz15⟩, ⟨fn_zz57, good_zz57⟩, trivial⟩), (run_zz96 big x).trans h⟩
def laws_FnComplements_b33 (rec : Y4 → Y2 → Int → Y4 → Int → Z0) (k : Y4 → Z0) (code0 : Y4) (q23 : Y2) (x24 : Int) (list25 : Y4) (i29 : Int) : Z0 :=
  cond (decide (i29 < (list25.length : Int)))
  ((atI list25 i29).bind fun _ =>
  (list25[i29.toNat]?).bind fun xq51 =>
  (zz89 q23 xq51).bind fun rq52 =>
  cond (!rq52.1.2.1)
  (some (false, (())))
  ((zz93 big rq52.1.1 x24).bind fun rq53 =>
  cond (!rq53.1)
  (some (false, (())))
  (rec code0 q23 x24 list25 (IntKind.i64.wrap (i29 + (1 : Int))))))
  (k code0)
def laws_FnComplements_a33 (code0 : Y4) : Z0 :=
  (zz94 code0).bind fun rq54 =>
  (zz95 rq54.1.1 rq54.1.2.1 rq54.1.2.2.1 rq54.1.2.2.2.1).bind fun rq55 =>
  (zz96 rq54.1.1 rq54.1.2.1 rq54.1.2.2.1 rq54.1.2.2.2.1).bind fun rq56 =>
  cond (((((), rq55.1.2).2).1) == ((((), rq56.1.2).2).1))
  ((zz60 big rq55.1.1 rq56.1.1).bind fun rq57 =>
  some (rq57.1, (())))
  (some (false, (())))
def laws_FnComplements_b23 (rec k : Y4 → Y2 → Y4 → Bool → Bool → Bool → Bool → Bool → Int → Z0) (code0 : Y4) (p3 : Y2) (central4 : Y4) (some8 unique12 relative16 boolean20 four21 : Bool) (n22 : Int) : Z0 :=
  cond (decide ((1 : Int) < n22))
  ((remI n22 (2 : Int)).bind fun xq17 =>
  cond (decide (xq17 = (0 : Int)))
  ((quoI IntKind.i64 n22 (2 : Int)).bind fun xq18 =>
  rec code0 p3 central4 some8 unique12 relative16 boolean20 four21 xq18)
  (k code0 p3 central4 some8 unique12 relative16 boolean20 four21 n22))
  (k code0 p3 central4 some8 unique12 relative16 boolean20 four21 n22)
def laws_FnComplements_a23 (L33 : Y4 → Y2 → Int → Y4 → Int → Z0) (code0 : Y4) (p3 : Y2) (central4 : Y4) (some8 unique12 relative16 boolean20 four21 : Bool) (n22 : Int) : Z0 :=
  cond (!four21)
  (some (false, (())))
  (cond (decide (n22 ≠ (1 : Int)))
  (some (false, (())))
  (cond (unique12 != boolean20)
  (some (false, (())))
  (cond relative16
  (cond (!some8)
  (some (false, (())))
  (cond unique12
  (cond (!some8)
  (some (false, (())))
  (cond boolean20
  (cond (decide ((central4.length : Int) ≠ (p3.1.length : Int)))
  (some (false, (())))
  ((zz87 code0).bind fun rq19 =>
  (zz89 rq19.1.1 rq19.1.2.1).bind fun rq20 =>
  (zz92 rq19.1.1 rq19.1.2.1).bind fun rq21 =>
  cond (((((), rq20.1.2).2).1) != ((((), rq21.1.2).2).1))
  (some (false, (())))
  ((zz60 big rq20.1.1 rq21.1.1).bind fun rq22 =>
  cond (!rq22.1)
  (some (false, (())))
  (L33 code0 rq19.1.1 rq19.1.2.1 rq20.1.1 (0 : Int)))))
  ((zz87 code0).bind fun rq23 =>
  (zz89 rq23.1.1 rq23.1.2.1).bind fun rq24 =>
  (zz92 rq23.1.1 rq23.1.2.1).bind fun rq25 =>
  cond (((((), rq24.1.2).2).1) != ((((), rq25.1.2).2).1))
  (some (false, (())))
  ((zz60 big rq24.1.1 rq25.1.1).bind fun rq26 =>
  cond (!rq26.1)
  (some (false, (())))
  (L33 code0 rq23.1.1 rq23.1.2.1 rq24.1.1 (0 : Int))))))
  (cond boolean20
  (cond (decide ((central4.length : Int) ≠ (p3.1.length : Int)))
  (some (false, (())))
  ((zz87 code0).bind fun rq27 =>
  (zz89 rq27.1.1 rq27.1.2.1).bind fun rq28 =>
  (zz92 rq27.1.1 rq27.1.2.1).bind fun rq29 =>
  cond (((((), rq28.1.2).2).1) != ((((), rq29.1.2).2).1))
  (some (false, (())))
  ((zz60 big rq28.1.1 rq29.1.1).bind fun rq30 =>
  cond (!rq30.1)
  (some (false, (())))
  (L33 code0 rq27.1.1 rq27.1.2.1 rq28.1.1 (0 : Int)))))
  ((zz87 code0).bind fun rq31 =>
  (zz89 rq31.1.1 rq31.1.2.1).bind fun rq32 =>
  (zz92 rq31.1.1 rq31.1.2.1).bind fun rq33 =>
  cond (((((), rq32.1.2).2).1) != ((((), rq33.1.2).2).1))
  (some (false, (())))
  ((zz60 big rq32.1.1 rq33.1.1).bind fun rq34 =>
  cond (!rq34.1)
  (some (false, (())))
  (L33 code0 rq31.1.1 rq31.1.2.1 rq32.1.1 (0 : Int)))))))
  (cond unique12
  (cond (!some8)
  (some (false, (())))
  (cond boolean20
  (cond (decide ((central4.length : Int) ≠ (p3.1.length : Int)))
  (some (false, (())))
  ((zz87 code0).bind fun rq35 =>
  (zz89 rq35.1.1 rq35.1.2.1).bind fun rq36 =>
  (zz92 rq35.1.1 rq35.1.2.1).bind fun rq37 =>
  cond (((((), rq36.1.2).2).1) != ((((), rq37.1.2).2).1))
  (some (false, (())))
  ((zz60 big rq36.1.1 rq37.1.1).bind fun rq38 =>
  cond (!rq38.1)
  (some (false, (())))
  (L33 code0 rq35.1.1 rq35.1.2.1 rq36.1.1 (0 : Int)))))
  ((zz87 code0).bind fun rq39 =>
  (zz89 rq39.1.1 rq39.1.2.1).bind fun rq40 =>
  (zz92 rq39.1.1 rq39.1.2.1).bind fun rq41 =>
  cond (((((), rq40.1.2).2).1) != ((((), rq41.1.2).2).1))
  (some (false, (())))
  ((zz60 big rq40.1.1 rq41.1.1).bind fun rq42 =>
  cond (!rq42.1)
  (some (false, (())))
  (L33 code0 rq39.1.1 rq39.1.2.1 rq40.1.1 (0 : Int))))))
  (cond boolean20
  (cond (decide ((central4.length : Int) ≠ (p3.1.length : Int)))
  (some (false, (())))
  ((zz87 code0).bind fun rq43 =>
  (zz89 rq43.1.1 rq43.1.2.1).bind fun rq44 =>
  (zz92 rq43.1.1 rq43.1.2.1).bind fun rq45 =>
  cond (((((), rq44.1.2).2).1) != ((((), rq45.1.2).2).1))
  (some (false, (())))
  ((zz60 big rq44.1.1 rq45.1.1).bind fun rq46 =>
  cond (!rq46.1)
  (some (false, (())))
  (L33 code0 rq43.1.1 rq43.1.2.1 rq44.1.1 (0 : Int)))))
  ((zz87 code0).bind fun rq47 =>
  (zz89 rq47.1.1 rq47.1.2.1).bind fun rq48 =>
  (zz92 rq47.1.1 rq47.1.2.1).bind fun rq49 =>
  cond (((((), rq48.1.2).2).1) != ((((), rq49.1.2).2).1))
  (some (false, (())))
  ((zz60 big rq48.1.1 rq49.1.1).bind fun rq50 =>
  cond (!rq50.1)
  (some (false, (())))
  (L33 code0 rq47.1.1 rq47.1.2.1 rq48.1.1 (0 : Int)))))))))
def laws_FnComplements_s (L23 : Y4 → Y2 → Y4 → Bool → Bool → Bool → Bool → Bool → Int → Z0) (L33 : Y4 → Y2 → Int → Y4 → Int → Z0) (code_0 : Y4) : Z0 :=
  (zz0 code_0).bind fun rq1 =>
  cond rq1.1
  (some (true, (())))
  ((zz21 code_0).bind fun rq2 =>
  (zz46 rq2.1).bind fun rq3 =>
  (zz59 big rq2.1).bind fun rq4 =>
  cond (((((), rq3.1.2).2).1) != ((((), rq4.1.2).2).1))
  (some (false, (())))
  ((zz60 big rq3.1.1 rq4.1.1).bind fun rq5 =>
  cond (!rq5.1)
  (some (false, (())))
  ((zz65 rq2.1).bind fun rq6 =>
  (zz67 rq2.1).bind fun rq7 =>
  cond (rq6.1.1 != rq7.1.1)
  (some (false, (())))
  (cond (rq6.1.2.1 != rq7.1.2.1)
  (some (false, (())))
  (cond (rq6.1.2.1 != ((((), rq3.1.2).2).1))
  (some (false, (())))
  ((zz71 rq2.1).bind fun rq8 =>
  (zz72 big rq2.1).bind fun rq9 =>
  cond (rq8.1.1 != rq9.1.1)
  (some (false, (())))
  (cond (rq8.1.2.1 != rq9.1.2.1)
  (some (false, (())))
  (cond (rq8.1.2.1 != ((((), rq3.1.2).2).1))
  (some (false, (())))
  ((zz78 rq2.1).bind fun rq10 =>
  (zz79 big rq2.1).bind fun rq11 =>
  cond (rq10.1.1 != rq11.1.1)
  (some (false, (())))
  (cond (rq10.1.2.1 != rq11.1.2.1)
  (some (false, (())))
  (cond (rq10.1.2.1 != ((((), rq3.1.2).2).1))
  (some (false, (())))
  (cond ((((), rq3.1.2).2).1)
  ((zz84 rq2.1).bind fun rq12 =>
  L23 code_0 rq2.1 rq3.1.1 rq6.1.1 rq8.1.1 rq10.1.1 rq12.1.1 rq12.1.2.1 (rq3.1.1.length : Int))
  ((zz87 code_0).bind fun rq13 =>
  (zz89 rq13.1.1 rq13.1.2.1).bind fun rq14 =>
  (zz92 rq13.1.1 rq13.1.2.1).bind fun rq15 =>
  cond (((((), rq14.1.2).2).1) != ((((), rq15.1.2).2).1))
  (some (false, (())))
  ((zz60 big rq14.1.1 rq15.1.1).bind fun rq16 =>
  cond (!rq16.1)
  (some (false, (())))
  (L33 code_0 rq13.1.1 rq13.1.2.1 rq14.1.1 (0 : Int))))))))))))))))
def laws_FnComplements_l23 (N : Nat) (k : Y4 → Y2 → Y4 → Bool → Bool → Bool → Bool → Bool → Int → Z0) : Nat → Y4 → Y2 → Y4 → Bool → Bool → Bool → Bool → Bool → Int → Z0
  | 0, _, _, _, _, _, _, _, _, _ => none
  | m + 1, code0, p3, central4, some8, unique12, relative16, boolean20, four21, n22 => laws_FnComplements_b23 (laws_FnComplements_l23 N k m) k code0 p3 central4 some8 unique12 relative16 boolean20 four21 n22
def laws_FnComplements_l33 (N : Nat) (k : Y4 → Z0) : Nat → Y4 → Y2 → Int → Y4 → Int → Z0
  | 0, _, _, _, _, _ => none
  | m + 1, code0, q23, x24, list25, i29 => laws_FnComplements_b33 (laws_FnComplements_l33 N k m) k code0 q23 x24 list25 i29
def laws_FnComplements_F33 (N : Nat) (code0 : Y4) (q23 : Y2) (x24 : Int) (list25 : Y4) (i29 : Int) : Z0 := laws_FnComplements_l33 N (laws_FnComplements_a33) N code0 q23 x24 list25 i29
def laws_FnComplements_F23 (N : Nat) (code0 : Y4) (p3 : Y2) (central4 : Y4) (some8 unique12 relative16 boolean20 four21 : Bool) (n22 : Int) : Z0 := laws_FnComplements_l23 N (laws_FnComplements_a23 (laws_FnComplements_F33 N)) N code0 p3 central4 some8 unique12 relative16 boolean20 four21 n22
def laws_FnComplements (N : Nat) (code_0 : Y4) : Z0 := laws_FnComplements_s (laws_FnComplements_F23 N) (laws_FnComplements_F33 N) code_0
def S_laws_FnComplements : Sig := { a := (.pair (.sl (.int .u8)) .unit), md := [0], mf := [], m := .unit, r := .bool, rf := .i, f := fun x => laws_FnComplements big x.1 }
def laws_FnComplements_c_a33 (code0 : Y4) : Z0 :=
  (zz94 code0).bind fun rq22 =>
  (zz95 rq22.1.1 rq22.1.2.1 rq22.1.2.2.1 rq22.1.2.2.2.1).bind fun rq23 =>
  (zz96 rq22.1.1 rq22.1.2.1 rq22.1.2.2.1 rq22.1.2.2.2.1).bind fun rq24 =>
  cond (((((), rq23.1.2).2).1) == ((((), rq24.1.2).2).1))
  ((zz60 big rq23.1.1 rq24.1.1).bind fun rq25 =>
  some (rq25.1, (())))
  (some (false, (())))
def laws_FnComplements_c_a23 (J27 : Y4 → Z0) (code0 : Y4) (p3 : Y2) (central4 : Y4) (some8 unique12 relative16 boolean20 four21 : Bool) (n22 : Int) : Z0 :=
  cond (!four21)
  (some (false, (())))
  (cond (decide (n22 ≠ (1 : Int)))
  (some (false, (())))
  (cond (unique12 != boolean20)
  (some (false, (())))
  (cond relative16
  (cond (!some8)
  (some (false, (())))
  (cond unique12
  (cond (!some8)
  (some (false, (())))
  (cond boolean20
  (cond (decide ((central4.length : Int) ≠ (p3.1.length : Int)))
  (some (false, (())))
  (J27 code0))
  (J27 code0)))
  (cond boolean20
  (cond (decide ((central4.length : Int) ≠ (p3.1.length : Int)))
  (some (false, (())))
  (J27 code0))
  (J27 code0))))
  (cond unique12
  (cond (!some8)
  (some (false, (())))
  (cond boolean20
  (cond (decide ((central4.length : Int) ≠ (p3.1.length : Int)))
  (some (false, (())))
  (J27 code0))
  (J27 code0)))
  (cond boolean20
  (cond (decide ((central4.length : Int) ≠ (p3.1.length : Int)))
  (some (false, (())))
  (J27 code0))
  (J27 code0))))))
def laws_FnComplements_c_j27 (L33 : Y4 → Y2 → Int → Y4 → Int → Z0) (code0 : Y4) : Z0 :=
  (zz87 code0).bind fun rq15 =>
  (zz89 rq15.1.1 rq15.1.2.1).bind fun rq16 =>
  (zz92 rq15.1.1 rq15.1.2.1).bind fun rq17 =>
  cond (((((), rq16.1.2).2).1) != ((((), rq17.1.2).2).1))
  (some (false, (())))
  ((zz60 big rq16.1.1 rq17.1.1).bind fun rq18 =>
  cond (!rq18.1)
  (some (false, (())))
  (L33 code0 rq15.1.1 rq15.1.2.1 rq16.1.1 (0 : Int)))
def laws_FnComplements_c_s (L23 : Y4 → Y2 → Y4 → Bool → Bool → Bool → Bool → Bool → Int → Z0) (J27 : Y4 → Z0) (code_0 : Y4) : Z0 :=
  (zz0 code_0).bind fun rq1 =>
  cond rq1.1
  (some (true, (())))
  ((zz21 code_0).bind fun rq2 =>
  (zz46 rq2.1).bind fun rq3 =>
  (zz59 big rq2.1).bind fun rq4 =>
  cond (((((), rq3.1.2).2).1) != ((((), rq4.1.2).2).1))
  (some (false, (())))
  ((zz60 big rq3.1.1 rq4.1.1).bind fun rq5 =>
  cond (!rq5.1)
  (some (false, (())))
  ((zz65 rq2.1).bind fun rq6 =>
  (zz67 rq2.1).bind fun rq7 =>
  cond (rq6.1.1 != rq7.1.1)
  (some (false, (())))
  (cond (rq6.1.2.1 != rq7.1.2.1)
  (some (false, (())))
  (cond (rq6.1.2.1 != ((((), rq3.1.2).2).1))
  (some (false, (())))
  ((zz71 rq2.1).bind fun rq8 =>
  (zz72 big rq2.1).bind fun rq9 =>
  cond (rq8.1.1 != rq9.1.1)
  (some (false, (())))
  (cond (rq8.1.2.1 != rq9.1.2.1)
  (some (false, (())))
  (cond (rq8.1.2.1 != ((((), rq3.1.2).2).1))
  (some (false, (())))
  ((zz78 rq2.1).bind fun rq10 =>
  (zz79 big rq2.1).bind fun rq11 =>
  cond (rq10.1.1 != rq11.1.1)
  (some (false, (())))
  (cond (rq10.1.2.1 != rq11.1.2.1)
  (some (false, (())))
  (cond (rq10.1.2.1 != ((((), rq3.1.2).2).1))
  (some (false, (())))
  (cond ((((), rq3.1.2).2).1)
  ((zz84 rq2.1).bind fun rq12 =>
  L23 code_0 rq2.1 rq3.1.1 rq6.1.1 rq8.1.1 rq10.1.1 rq12.1.1 rq12.1.2.1 (rq3.1.1.length : Int))
  (J27 code_0)))))))))))))
def laws_FnComplements_c_F33 (N : Nat) (code0 : Y4) (q23 : Y2) (x24 : Int) (list25 : Y4) (i29 : Int) : Z0 := laws_FnComplements_l33 N (laws_FnComplements_c_a33) N code0 q23 x24 list25 i29
def laws_FnComplements_c_J27 (N : Nat) (code0 : Y4) : Z0 := gate true N (laws_FnComplements_c_j27 (laws_FnComplements_c_F33 N) code0)
def laws_FnComplements_c_F23 (N : Nat) (code0 : Y4) (p3 : Y2) (central4 : Y4) (some8 unique12 relative16 boolean20 four21 : Bool) (n22 : Int) : Z0 := laws_FnComplements_l23 N (laws_FnComplements_c_a23 (laws_FnComplements_c_J27 N)) N code0 p3 central4 some8 unique12 relative16 boolean20 four21 n22
def laws_FnComplements_c (N : Nat) (code_0 : Y4) : Z0 := laws_FnComplements_c_s (laws_FnComplements_c_F23 N) (laws_FnComplements_c_J27 N) code_0
def A_laws_FnComplements_c : Cfg := mkCfg tab [(18, S_zz0), (19, S_zz21), (20, S_zz46), (21, S_zz59), (22, S_zz60), (23, S_zz65), (24, S_zz67), (25, S_zz71), (26, S_zz72), (27, S_zz78), (28, S_zz79), (29, S_zz84), (30, S_zz87), (31, S_zz89), (32, S_zz92), (33, S_zz93), (34, S_zz94), (35, S_zz95), (36, S_zz96)] [(46, [.as (.sl (.int .u8)) .i, .drop, .drop, .as y1 (.o .i), .as (.sl I) (.o .i), .drop, .drop, .drop, .as .bool .i, .drop, .drop, .drop, .as .bool .i, .drop, .drop, .drop, .as .bool .i, .drop, .drop, .drop, .as .bool .i, .as .bool .i, .as I .i]), (55, [.as (.sl (.int .u8)) .i]), (51, [.as (.sl (.int .u8)) .i, .drop, .drop, .as y1 (.o .i), .as (.sl I) (.o .i), .drop, .drop, .drop, .as .bool .i, .drop, .drop, .drop, .as .bool .i, .drop, .drop, .drop, .as .bool .i, .drop, .drop, .drop, .as .bool .i, .as .bool .i, .as I .i]), (66, [.as (.sl (.int .u8)) .i, .drop, .drop, .drop, .drop, .drop, .drop, .drop, .drop, .drop, .drop, .drop, .drop, .drop, .drop, .drop, .drop, .drop, .drop, .drop, .drop, .drop, .drop, .as y1 (.o .i), .as I .i, .as (.sl I) (.o .i), .drop, .drop, .drop, .as I .i]), (77, [.as (.sl (.int .u8)) .i]), (500027, [])]
noncomputable def laws_FnComplements_c_R23 (N n : Nat) (K : Ex → St → Z0) (code0 : Y4) (p3 : Y2) (central4 : Y4) (some8 unique12 relative16 boolean20 four21 : Bool) (n22 : Int) : Z0 := iter ((A_laws_FnComplements_c).shape 46) (run (A_laws_FnComplements_c) N (codeAt Try.f4 [1, 1, 1, 1, 1, 1, 1, 1, 1, 1, 1, 0, 1, 0, 1, 1, 0, 0, 0])) n ([.val (.sl (.int .u8)) .i code0, .u, .u, .val y1 (.o .i) p3, .val (.sl I) (.o .i) central4, .u, .u, .u, .val .bool .i some8, .u, .u, .u, .val .bool .i unique12, .u, .u, .u, .val .bool .i relative16, .u, .u, .u, .val .bool .i boolean20, .val .bool .i four21, .val I .i n22] ++ List.replicate 242 .u) K
noncomputable def laws_FnComplements_c_R33 (N n : Nat) (K : Ex → St → Z0) (code0 : Y4) (q23 : Y2) (x24 : Int) (list25 : Y4) (i29 : Int) : Z0 := iter ((A_laws_FnComplements_c).shape 66) (run (A_laws_FnComplements_c) N (codeAt Try.f4 [1, 1, 1, 1, 1, 1, 1, 1, 1, 1, 1, 1, 1, 1, 1, 0, 1, 0, 0])) n ([.val (.sl (.int .u8)) .i code0, .u, .u, .u, .u, .u, .u, .u, .u, .u, .u, .u, .u, .u, .u, .u, .u, .u, .u, .u, .u, .u, .u, .val y1 (.o .i) q23, .val I .i x24, .val (.sl I) (.o .i) list25, .u, .u, .u, .val I .i i29] ++ List.replicate 235 .u) K
noncomputable abbrev laws_FnComplements_c_z : Ex → St → Z0 := finish (A_laws_FnComplements_c) S_laws_FnComplements Try.f4.results.toList
noncomputable abbrev laws_FnComplements_c_X23 (kX : St → Z0) : Y4 → Y2 → Y4 → Bool → Bool → Bool → Bool → Bool → Int → Z0 := fun (code0 : Y4) (p3 : Y2) (central4 : Y4) (some8 unique12 relative16 boolean20 four21 : Bool) (n22 : Int) => kX ([.val (.sl (.int .u8)) .i code0, .u, .u, .val y1 (.o .i) p3, .val (.sl I) (.o .i) central4, .u, .u, .u, .val .bool .i some8, .u, .u, .u, .val .bool .i unique12, .u, .u, .u, .val .bool .i relative16, .u, .u, .u, .val .bool .i boolean20, .val .bool .i four21, .val I .i n22] ++ List.replicate 242 .u)
noncomputable abbrev laws_FnComplements_c_E23 (kX : St → Z0) (kO : Nat → St → Z0) : Ex → St → Z0 := exK laws_FnComplements_c_z 0 ((A_laws_FnComplements_c).shape 51) kX kO
noncomputable abbrev laws_FnComplements_c_X33 (kX : St → Z0) : Y4 → Z0 := fun (code0 : Y4) => kX ([.val (.sl (.int .u8)) .i code0] ++ List.replicate 264 .u)
noncomputable abbrev laws_FnComplements_c_E33 (kX : St → Z0) (kO : Nat → St → Z0) : Ex → St → Z0 := exK laws_FnComplements_c_z 2 ((A_laws_FnComplements_c).shape 77) kX kO
noncomputable abbrev laws_FnComplements_c_jK27 (N : Nat) : Ex → St → Z0 := laws_FnComplements_c_z
noncomputable def laws_FnComplements_c_Q27 (N : Nat) (code0 : Y4) : Z0 := gated true N (run (A_laws_FnComplements_c) N (codeAt Try.f4 [1, 1, 1, 1, 1, 1, 1, 1, 1, 1, 1, 1])) ([.val (.sl (.int .u8)) .i code0] ++ List.replicate 264 .u) (laws_FnComplements_c_jK27 N)
theorem laws_FnComplements_c_step23 (N m : Nat) (kX : St → Z0) (kO : Nat → St → Z0) (code0 : Y4) (p3 : Y2) (central4 : Y4) (some8 unique12 relative16 boolean20 four21 : Bool) (n22 : Int) : laws_FnComplements_c_R23 N (m + 1) (laws_FnComplements_c_E23 kX kO) code0 p3 central4 some8 unique12 relative16 boolean20 four21 n22 = laws_FnComplements_b23 (laws_FnComplements_c_R23 N m (laws_FnComplements_c_E23 kX kO)) (laws_FnComplements_c_X23 kX) code0 p3 central4 some8 unique12 relative16 boolean20 four21 n22 := by kernel_rfl
theorem laws_FnComplements_c_iter23 (N : Nat) (kX : St → Z0) (kO : Nat → St → Z0) : ∀ (n : Nat) (code0 : Y4) (p3 : Y2) (central4 : Y4) (some8 unique12 relative16 boolean20 four21 : Bool) (n22 : Int), laws_FnComplements_c_R23 N n (laws_FnComplements_c_E23 kX kO) code0 p3 central4 some8 unique12 relative16 boolean20 four21 n22 = laws_FnComplements_l23 N (laws_FnComplements_c_X23 kX) n code0 p3 central4 some8 unique12 relative16 boolean20 four21 n22
  | 0, _, _, _, _, _, _, _, _, _ => rfl
  | m + 1, code0, p3, central4, some8, unique12, relative16, boolean20, four21, n22 => by
    have hrec : laws_FnComplements_c_R23 N m (laws_FnComplements_c_E23 kX kO) = (laws_FnComplements_l23 N (laws_FnComplements_c_X23 kX) m) := (funext fun code0 => (funext fun p3 => (funext fun central4 => (funext fun some8 => (funext fun unique12 => (funext fun relative16 => (funext fun boolean20 => (funext fun four21 => (funext fun n22 => laws_FnComplements_c_iter23 N kX kO m code0 p3 central4 some8 unique12 relative16 boolean20 four21 n22)))))))))
    refine (laws_FnComplements_c_step23 N m kX kO code0 p3 central4 some8 unique12 relative16 boolean20 four21 n22).trans ?_
    rw [hrec]
    rfl
noncomputable abbrev laws_FnComplements_c_K23 (N : Nat) : Ex → St → Z0 := (blockK 0 (seqK ((A_laws_FnComplements_c).shape 51) (gated ((A_laws_FnComplements_c).shape 500025).isSome N (run (A_laws_FnComplements_c) N (codeAt Try.f4 [1, 1, 1, 1, 1, 1, 1, 1, 1, 1, 1, 0, 1, 0, 1, 1, 1]))) (seqK ((A_laws_FnComplements_c).shape 55) (gated ((A_laws_FnComplements_c).shape 500027).isSome N (run (A_laws_FnComplements_c) N (codeAt Try.f4 [1, 1, 1, 1, 1, 1, 1, 1, 1, 1, 1, 1]))) laws_FnComplements_c_z)))
theorem laws_FnComplements_c_step33 (N m : Nat) (kX : St → Z0) (kO : Nat → St → Z0) (code0 : Y4) (q23 : Y2) (x24 : Int) (list25 : Y4) (i29 : Int) : laws_FnComplements_c_R33 N (m + 1) (laws_FnComplements_c_E33 kX kO) code0 q23 x24 list25 i29 = laws_FnComplements_b33 (laws_FnComplements_c_R33 N m (laws_FnComplements_c_E33 kX kO)) (laws_FnComplements_c_X33 kX) code0 q23 x24 list25 i29 := by kernel_rfl
theorem laws_FnComplements_c_iter33 (N : Nat) (kX : St → Z0) (kO : Nat → St → Z0) : ∀ (n : Nat) (code0 : Y4) (q23 : Y2) (x24 : Int) (list25 : Y4) (i29 : Int), laws_FnComplements_c_R33 N n (laws_FnComplements_c_E33 kX kO) code0 q23 x24 list25 i29 = laws_FnComplements_l33 N (laws_FnComplements_c_X33 kX) n code0 q23 x24 list25 i29
  | 0, _, _, _, _, _ => rfl
  | m + 1, code0, q23, x24, list25, i29 => by
    have hrec : laws_FnComplements_c_R33 N m (laws_FnComplements_c_E33 kX kO) = (laws_FnComplements_l33 N (laws_FnComplements_c_X33 kX) m) := (funext fun code0 => (funext fun q23 => (funext fun x24 => (funext fun list25 => (funext fun i29 => laws_FnComplements_c_iter33 N kX kO m code0 q23 x24 list25 i29)))))
    refine (laws_FnComplements_c_step33 N m kX kO code0 q23 x24 list25 i29).trans ?_
    rw [hrec]
    rfl
noncomputable abbrev laws_FnComplements_c_K33 (N : Nat) : Ex → St → Z0 := (blockK 2 (seqK ((A_laws_FnComplements_c).shape 77) (gated ((A_laws_FnComplements_c).shape 500038).isSome N (run (A_laws_FnComplements_c) N (codeAt Try.f4 [1, 1, 1, 1, 1, 1, 1, 1, 1, 1, 1, 1, 1, 1, 1, 1]))) laws_FnComplements_c_z))
noncomputable abbrev laws_FnComplements_c_k33 (N : Nat) : St → Z0 := fun st' => run (A_laws_FnComplements_c) N (codeAt Try.f4 [1, 1, 1, 1, 1, 1, 1, 1, 1, 1, 1, 1, 1, 1, 1, 1]) st' laws_FnComplements_c_z
theorem laws_FnComplements_c_after33 (N : Nat) (code0 : Y4) : laws_FnComplements_c_X33 (laws_FnComplements_c_k33 N) code0 = laws_FnComplements_c_a33 code0 := by kernel_rfl
theorem laws_FnComplements_c_in33 (N : Nat) (code0 : Y4) (q23 : Y2) (x24 : Int) (list25 : Y4) (i29 : Int) : laws_FnComplements_c_R33 N N (laws_FnComplements_c_K33 N) code0 q23 x24 list25 i29 = laws_FnComplements_c_F33 N code0 q23 x24 list25 i29 :=
  have h : laws_FnComplements_c_X33 (laws_FnComplements_c_k33 N) = (laws_FnComplements_c_a33) := (funext fun code0 => laws_FnComplements_c_after33 N code0)
  ((vad (fun st => by kernel_rfl) (fun st => by kernel_rfl)).trans (laws_FnComplements_c_iter33 N (laws_FnComplements_c_k33 N) (fun j st => (laws_FnComplements_c_K33 N) (.exit j) st) N code0 q23 x24 list25 i29)).trans (congrArg (fun k => laws_FnComplements_l33 N k N code0 q23 x24 list25 i29) h)
theorem laws_FnComplements_c_jr27 (N : Nat) (code0 : Y4) : run (A_laws_FnComplements_c) N (codeAt Try.f4 [1, 1, 1, 1, 1, 1, 1, 1, 1, 1, 1, 1]) ([.val (.sl (.int .u8)) .i code0] ++ List.replicate 264 .u) (laws_FnComplements_c_jK27 N) = laws_FnComplements_c_j27 (laws_FnComplements_c_R33 N N (laws_FnComplements_c_K33 N)) code0 := by kernel_rfl
theorem laws_FnComplements_c_inJ27 (N : Nat) (code0 : Y4) : laws_FnComplements_c_Q27 N code0 = laws_FnComplements_c_J27 N code0 := by
  have h : laws_FnComplements_c_j27 (laws_FnComplements_c_R33 N N (laws_FnComplements_c_K33 N)) code0 = laws_FnComplements_c_j27 (laws_FnComplements_c_F33 N) code0 := by rw [(funext fun code0 => (funext fun q23 => (funext fun x24 => (funext fun list25 => (funext fun i29 => laws_FnComplements_c_in33 N code0 q23 x24 list25 i29)))))]
  exact congrArg (gate true N) ((laws_FnComplements_c_jr27 N code0).trans h)
noncomputable abbrev laws_FnComplements_c_k23 (N : Nat) : St → Z0 := fun st' => run (A_laws_FnComplements_c) N (codeAt Try.f4 [1, 1, 1, 1, 1, 1, 1, 1, 1, 1, 1, 0, 1, 0, 1, 1, 1]) st' (seqK ((A_laws_FnComplements_c).shape 55) (gated ((A_laws_FnComplements_c).shape 500027).isSome N (run (A_laws_FnComplements_c) N (codeAt Try.f4 [1, 1, 1, 1, 1, 1, 1, 1, 1, 1, 1, 1]))) laws_FnComplements_c_z)
theorem laws_FnComplements_c_after23 (N : Nat) (code0 : Y4) (p3 : Y2) (central4 : Y4) (some8 unique12 relative16 boolean20 four21 : Bool) (n22 : Int) : laws_FnComplements_c_X23 (laws_FnComplements_c_k23 N) code0 p3 central4 some8 unique12 relative16 boolean20 four21 n22 = laws_FnComplements_c_a23 (laws_FnComplements_c_Q27 N) code0 p3 central4 some8 unique12 relative16 boolean20 four21 n22 := by kernel_rfl
theorem laws_FnComplements_c_in23 (N : Nat) (code0 : Y4) (p3 : Y2) (central4 : Y4) (some8 unique12 relative16 boolean20 four21 : Bool) (n22 : Int) : laws_FnComplements_c_R23 N N (laws_FnComplements_c_K23 N) code0 p3 central4 some8 unique12 relative16 boolean20 four21 n22 = laws_FnComplements_c_F23 N code0 p3 central4 some8 unique12 relative16 boolean20 four21 n22 :=
  have h : laws_FnComplements_c_X23 (laws_FnComplements_c_k23 N) = (laws_FnComplements_c_a23 (laws_FnComplements_c_J27 N)) := (funext fun code0 => (funext fun p3 => (funext fun central4 => (funext fun some8 => (funext fun unique12 => (funext fun relative16 => (funext fun boolean20 => (funext fun four21 => (funext fun n22 => (laws_FnComplements_c_after23 N code0 p3 central4 some8 unique12 relative16 boolean20 four21 n22).trans (by rw [(funext fun code0 => laws_FnComplements_c_inJ27 N code0)]))))))))))
  ((vad (fun st => by kernel_rfl) (fun st => by kernel_rfl)).trans (laws_FnComplements_c_iter23 N (laws_FnComplements_c_k23 N) (fun j st => (laws_FnComplements_c_K23 N) (.exit j) st) N code0 p3 central4 some8 unique12 relative16 boolean20 four21 n22)).trans (congrArg (fun k => laws_FnComplements_l23 N k N code0 p3 central4 some8 unique12 relative16 boolean20 four21 n22) h)
theorem run0_laws_FnComplements_c (N : Nat) (x : (S_laws_FnComplements).a.den) : runF (A_laws_FnComplements_c) N Try.f4 S_laws_FnComplements x = (laws_FnComplements_c_s (laws_FnComplements_c_R23 N N (laws_FnComplements_c_K23 N)) (laws_FnComplements_c_Q27 N) x.1) := by kernel_rfl
theorem run_laws_FnComplements_c (N : Nat) (x : (S_laws_FnComplements).a.den) : runF (A_laws_FnComplements_c) N Try.f4 S_laws_FnComplements x = laws_FnComplements_c N x.1 := by
  refine (run0_laws_FnComplements_c N x).trans ?_
  rw [(funext fun code0 => (funext fun p3 => (funext fun central4 => (funext fun some8 => (funext fun unique12 => (funext fun relative16 => (funext fun boolean20 => (funext fun four21 => (funext fun n22 => laws_FnComplements_c_in23 N code0 p3 central4 some8 unique12 relative16 boolean20 four21 n22))))))))), (funext fun code0 => laws_FnComplements_c_inJ27 N code0)]
  rfl
theorem run_laws_FnComplements (x : (S_laws_FnComplements).a.den) : runF (A_laws_FnComplements_c) big Try.f4 S_laws_FnComplements x = laws_FnComplements big x.1 := (run_laws_FnComplements_c big x).trans (by kernel_rfl)
theorem fn_laws_FnComplements : FnOk Try.prog 4 := ⟨_, Try.func4, by kernel_rfl, by kernel_rfl⟩
theorem good_laws_FnComplements : Gx.Good Try.prog 4 S_laws_FnComplements := vaa Try.func4 (of_decide_eq_true (by kernel_rfl)) fun x r h => ⟨A_laws_FnComplements_c, big, vac tabOk, vab (show SigsOk Try.prog [(18, S_zz0), (19, S_zz21), (20, S_zz46), (21, S_zz59), (22, S_zz60), (23, S_zz65), (24, S_zz67), (25, S_zz71), (26, S_zz72), (27, S_zz78), (28, S_zz79), (29, S_zz84), (30, S_zz87), (31, S_zz89), (32, S_zz92), (33, S_zz93), (34, S_zz94), (35, S_zz95), (36, S_zz96)] from ⟨⟨fn_zz0, good_zz0⟩, ⟨fn_zz21, good_zz21⟩, ⟨fn_zz46, good_zz46⟩, ⟨fn_zz59, good_zz59⟩, ⟨fn_zz60, good_zz60⟩, ⟨fn_zz65, good_zz65⟩, ⟨fn_zz67, good_zz67⟩, ⟨fn_zz71, good_zz71⟩, ⟨fn_zz72, good_zz72⟩, ⟨fn_zz78, good_zz78⟩, ⟨fn_zz79, good_zz79⟩, ⟨fn_zz84, good_zz84⟩, ⟨fn_zz87, good_zz87⟩, ⟨fn_zz89, good_zz89⟩, ⟨fn_zz92, good_zz92⟩, ⟨fn_zz93, good_zz93⟩, ⟨fn_zz94, good_zz94⟩, ⟨fn_zz95, good_zz95⟩, ⟨fn_zz96, good_zz96⟩, trivial⟩), (run_laws_FnComplements x).trans h⟩
end Go.Proofs.Ytcdlbboeflehdaa
