import Derived.Test.YtiklgbjlggcejaaGxBox
import Derived.Test.YtiklgbjlggcejaaRows
import Derived.Test.YtiklgbjlggcejaaChecked
import Derived.KernelRfl
set_option maxRecDepth 100000
set_option linter.unusedVariables false
namespace Go.Proofs.Ytiklgbjlggcejaa
open Go Go.Gx Go.Proofs

abbrev I := Ty.int .i64
abbrev Y1 := (Option ((List (List Bool)) × ((List (List Int)) × ((List (List Int)) × Unit))))
abbrev Y2 := ((List (List Int)) × Unit)
abbrev Y7 := (Int × ((List (Int × ((List Int) × Unit))) × Unit))
abbrev Y6 := (Int × ((List Int) × Unit))
abbrev Y3 := (List (List Int))
abbrev Y4 := (List Int)
abbrev Y5 := (List (List Bool))
def tab : Tab := { es := [(22, I, .i)], ts := [(3, I, .i), (4, .bool, .i), (5, (.int .u8), .i), (9, .str, .i), (22, (.sl I), (.o .i)), (68, (.pair I (.pair I .unit)), .i), (75, (.map (.pair I (.pair I .unit)) .bool), (.o .i)), (97, (.ptr (.pair (.sl I) (.pair (.sl I) (.pair (.map (.pair I (.pair I .unit)) .bool) .unit)))), (.o (.p (.o .i) (.p (.o .i) (.p (.o .i) .i))))), (99, (.pair (.sl I) (.pair (.sl I) (.pair (.map (.pair I (.pair I .unit)) .bool) .unit))), (.p (.o .i) (.p (.o .i) (.p (.o .i) .i))))], fs := [(99, [((.sl I), (.o .i)), ((.sl I), (.o .i)), ((.map (.pair I (.pair I .unit)) .bool), (.o .i))])], ars := [(68, I, .i, 2)], ms := [(75, (.pair I (.pair I .unit)), .bool), (101, (.int .u8), I)] }
theorem tabOk : tab.chk Try.prog = true := by kernel_rfl

/-! zz0 -/
def zz0_b3 (rec : Y4 → Y4 → Int → Option (Y4 × Unit)) (k : Y4 → Option (Y4 × Unit)) (a0 : Y4) (out3 : Y4) (i4 : Int) : Option (Y4 × Unit) :=
  cond (decide (i4 < (a0.length : Int)))
  ((atI a0 i4).bind fun xq3 =>
  (atI out3 i4).bind fun _ =>
  (out3[i4.toNat]?).bind fun xq4 =>
  rec a0 (out3.set i4.toNat xq3) (IntKind.i64.wrap (i4 + (1 : Int))))
  (k out3)
def zz0_a3 (out3 : Y4) : Option (Y4 × Unit) :=
  some (out3, (()))
def zz0_s (L3 : Y4 → Y4 → Int → Option (Y4 × Unit)) (a_0 : Y4) : Option (Y4 × Unit) :=
  (mkI (0 : Int) (a_0.length : Int)).bind fun xq1 => (mkI (0 : Int) (a_0.length : Int)).bind fun xq2 => cond (decide ((a_0.length : Int) ≤ (a_0.length : Int)))
  (L3 a_0 xq2 (0 : Int))
  none
def zz0_l3 (N : Nat) (k : Y4 → Option (Y4 × Unit)) : Nat → Y4 → Y4 → Int → Option (Y4 × Unit)
  | 0, _, _, _ => none
  | m + 1, a0, out3, i4 => zz0_b3 (zz0_l3 N k m) k a0 out3 i4
def zz0_F3 (N : Nat) (a0 : Y4) (out3 : Y4) (i4 : Int) : Option (Y4 × Unit) := zz0_l3 N (zz0_a3) N a0 out3 i4
def zz0 (N : Nat) (a_0 : Y4) : Option (Y4 × Unit) := zz0_s (zz0_F3 N) a_0
def S_zz0 : Sig := { a := (.pair (.sl I) .unit), md := [0], mf := [], m := .unit, r := (.sl I), rf := (.o .i), f := fun x => zz0 big x.1 }
def A_zz0 : Cfg := mkCfg tab [] [(6, [.as (.sl I) .i, .drop, .drop, .as (.sl I) (.o .i), .as I .i]), (13, [.drop, .drop, .drop, .as (.sl I) (.o .i)])]
noncomputable def zz0_R3 (N n : Nat) (K : Ex → St → Option (Y4 × Unit)) (a0 : Y4) (out3 : Y4) (i4 : Int) : Option (Y4 × Unit) := iter ((A_zz0).shape 6) (run (A_zz0) N (codeAt Try.f9 [1, 1, 0, 1, 0, 0])) n ([.val (.sl I) .i a0, .u, .u, .val (.sl I) (.o .i) out3, .val I .i i4] ++ List.replicate 17 .u) K
noncomputable abbrev zz0_z : Ex → St → Option (Y4 × Unit) := finish (A_zz0) S_zz0 Try.f9.results.toList
noncomputable abbrev zz0_X3 (kX : St → Option (Y4 × Unit)) : Y4 → Option (Y4 × Unit) := fun (out3 : Y4) => kX ([.u, .u, .u, .val (.sl I) (.o .i) out3] ++ List.replicate 18 .u)
noncomputable abbrev zz0_E3 (kX : St → Option (Y4 × Unit)) (kO : Nat → St → Option (Y4 × Unit)) : Ex → St → Option (Y4 × Unit) := exK zz0_z 0 ((A_zz0).shape 13) kX kO
theorem zz0_step3 (N : Nat) (m : Nat) (kX : St → Option (Y4 × Unit)) (kO : Nat → St → Option (Y4 × Unit)) (a0 : Y4) (out3 : Y4) (i4 : Int) : zz0_R3 N (m + 1) (zz0_E3 kX kO) a0 out3 i4 = zz0_b3 (zz0_R3 N m (zz0_E3 kX kO)) (zz0_X3 kX) a0 out3 i4 := by kernel_rfl
theorem zz0_iter3 (N : Nat) (kX : St → Option (Y4 × Unit)) (kO : Nat → St → Option (Y4 × Unit)) : ∀ (n : Nat) (a0 : Y4) (out3 : Y4) (i4 : Int), zz0_R3 N n (zz0_E3 kX kO) a0 out3 i4 = zz0_l3 N (zz0_X3 kX) n a0 out3 i4
  | 0, _, _, _ => rfl
  | m + 1, a0, out3, i4 => by
    have hrec : zz0_R3 N m (zz0_E3 kX kO) = (zz0_l3 N (zz0_X3 kX) m) := (funext fun a0 => (funext fun out3 => (funext fun i4 => zz0_iter3 N kX kO m a0 out3 i4)))
    refine (zz0_step3 N m kX kO a0 out3 i4).trans ?_
    rw [hrec]
    rfl
noncomputable abbrev zz0_K3 (N : Nat) : Ex → St → Option (Y4 × Unit) := (blockK 0 (seqK ((A_zz0).shape 13) (run (A_zz0) N (codeAt Try.f9 [1, 1, 1])) zz0_z))
noncomputable abbrev zz0_k3 (N : Nat) : St → Option (Y4 × Unit) := fun st' => run (A_zz0) N (codeAt Try.f9 [1, 1, 1]) st' zz0_z
theorem zz0_after3 (N : Nat) (out3 : Y4) : zz0_X3 (zz0_k3 N) out3 = zz0_a3 out3 := by kernel_rfl
theorem zz0_in3 (N : Nat) (a0 : Y4) (out3 : Y4) (i4 : Int) : zz0_R3 N N (zz0_K3 N) a0 out3 i4 = zz0_F3 N a0 out3 i4 :=
  have h : zz0_X3 (zz0_k3 N) = (zz0_a3) := (funext fun out3 => zz0_after3 N out3)
  ((iter_ex (fun st => by kernel_rfl) (fun st => by kernel_rfl)).trans (zz0_iter3 N (zz0_k3 N) (fun j st => (zz0_K3 N) (.exit j) st) N a0 out3 i4)).trans (congrArg (fun k => zz0_l3 N k N a0 out3 i4) h)
theorem run0_zz0 (N : Nat) (x : (S_zz0).a.den) : runF (A_zz0) N Try.f9 S_zz0 x = (zz0_s (zz0_R3 N N (zz0_K3 N)) x.1) := by kernel_rfl
theorem run_zz0 (N : Nat) (x : (S_zz0).a.den) : runF (A_zz0) N Try.f9 S_zz0 x = zz0 N x.1 := by
  refine (run0_zz0 N x).trans ?_
  rw [(funext fun a0 => (funext fun out3 => (funext fun i4 => zz0_in3 N a0 out3 i4)))]
  rfl
theorem fn_zz0 : FnOk Try.prog 9 := ⟨_, Try.func9, by kernel_rfl, by kernel_rfl⟩
theorem good_zz0 : Gx.Good Try.prog 9 S_zz0 := good_of_run Try.func9 (of_decide_eq_true (by kernel_rfl)) fun x r h => ⟨A_zz0, big, mkCfg_ok tabOk, mkCfg_sigs (show SigsOk Try.prog [] from trivial), (run_zz0 big x).trans h⟩

/-! zz1 -/
def zz1_s (x_0 : Int) (a_1 : Int) (b_2 : Int) : Option (Bool × Unit) :=
  cond (decide (a_1 ≤ x_0))
  (some (decide (x_0 ≤ b_2), (())))
  (some (false, (())))
def zz1 (x_0 : Int) (a_1 : Int) (b_2 : Int) : Option (Bool × Unit) := zz1_s x_0 a_1 b_2
def S_zz1 : Sig := { a := (.pair I (.pair I (.pair I .unit))), md := [0, 0, 0], mf := [], m := .unit, r := .bool, rf := .i, f := fun x => zz1 x.1 x.2.1 x.2.2.1 }
def A_zz1 : Cfg := mkCfg tab [] []
theorem run_zz1 (N : Nat) (x : (S_zz1).a.den) : runF (A_zz1) N Try.f77 S_zz1 x = zz1 x.1 x.2.1 x.2.2.1 := by kernel_rfl
theorem fn_zz1 : FnOk Try.prog 77 := ⟨_, Try.func77, by kernel_rfl, by kernel_rfl⟩
theorem good_zz1 : Gx.Good Try.prog 77 S_zz1 := good_of_run Try.func77 (of_decide_eq_true (by kernel_rfl)) fun x r h => ⟨A_zz1, big, mkCfg_ok tabOk, mkCfg_sigs (show SigsOk Try.prog [] from trivial), (run_zz1 big x).trans h⟩

/-! zz2 -/
def zz2_b3 (rec : Y4 → Int → Int → Option (Int × Unit)) (k : Option (Int × Unit)) (w0 : Y4) (open5 : Int) (i6 : Int) : Option (Int × Unit) :=
  cond (decide (i6 < (w0.length : Int)))
  ((atI w0 i6).bind fun xq1 =>
  cond (decide (xq1 = (-1 : Int)))
  (cond (decide ((IntKind.i64.wrap (open5 + (1 : Int))) = (0 : Int)))
  (some (IntKind.i64.wrap (i6 + (1 : Int)), (())))
  (rec w0 (IntKind.i64.wrap (open5 + (1 : Int))) (IntKind.i64.wrap (i6 + (1 : Int)))))
  ((atI w0 i6).bind fun xq2 =>
  cond (decide (xq2 = (-2 : Int)))
  (cond (decide ((IntKind.i64.wrap (open5 + (1 : Int))) = (0 : Int)))
  (some (IntKind.i64.wrap (i6 + (1 : Int)), (())))
  (rec w0 (IntKind.i64.wrap (open5 + (1 : Int))) (IntKind.i64.wrap (i6 + (1 : Int)))))
  ((atI w0 i6).bind fun xq3 =>
  (zz1 xq3 (0 : Int) (4 : Int)).bind fun rq4 =>
  cond rq4.1
  (cond (decide ((IntKind.i64.wrap (open5 - (1 : Int))) = (0 : Int)))
  (some (IntKind.i64.wrap (i6 + (1 : Int)), (())))
  (rec w0 (IntKind.i64.wrap (open5 - (1 : Int))) (IntKind.i64.wrap (i6 + (1 : Int)))))
  (some ((-1 : Int), (()))))))
  (k)
def zz2_a3 : Option (Int × Unit) :=
  some ((-1 : Int), (()))
def zz2_s (L3 : Y4 → Int → Int → Option (Int × Unit)) (w_0 : Y4) (from_1 : Int) : Option (Int × Unit) :=
  L3 w_0 (1 : Int) from_1
def zz2_l3 (N : Nat) (k : Option (Int × Unit)) : Nat → Y4 → Int → Int → Option (Int × Unit)
  | 0, _, _, _ => none
  | m + 1, w0, open5, i6 => zz2_b3 (zz2_l3 N k m) k w0 open5 i6
def zz2_F3 (N : Nat) (w0 : Y4) (open5 : Int) (i6 : Int) : Option (Int × Unit) := zz2_l3 N (zz2_a3) N w0 open5 i6
def zz2 (N : Nat) (w_0 : Y4) (from_1 : Int) : Option (Int × Unit) := zz2_s (zz2_F3 N) w_0 from_1
def S_zz2 : Sig := { a := (.pair (.sl I) (.pair I .unit)), md := [0, 0], mf := [], m := .unit, r := I, rf := .i, f := fun x => zz2 big x.1 x.2.1 }
def A_zz2 : Cfg := mkCfg tab [(77, S_zz1)] [(6, [.as (.sl I) .i, .drop, .drop, .drop, .drop, .as I .i, .as I .i]), (25, [])]
noncomputable def zz2_R3 (N n : Nat) (K : Ex → St → Option (Int × Unit)) (w0 : Y4) (open5 : Int) (i6 : Int) : Option (Int × Unit) := iter ((A_zz2).shape 6) (run (A_zz2) N (codeAt Try.f78 [1, 1, 0, 1, 0, 0])) n ([.val (.sl I) .i w0, .u, .u, .u, .u, .val I .i open5, .val I .i i6] ++ List.replicate 34 .u) K
noncomputable abbrev zz2_z : Ex → St → Option (Int × Unit) := finish (A_zz2) S_zz2 Try.f78.results.toList
noncomputable abbrev zz2_X3 (kX : St → Option (Int × Unit)) : Option (Int × Unit) := kX ([] ++ List.replicate 41 .u)
noncomputable abbrev zz2_E3 (kX : St → Option (Int × Unit)) (kO : Nat → St → Option (Int × Unit)) : Ex → St → Option (Int × Unit) := exK zz2_z 0 ((A_zz2).shape 25) kX kO
theorem zz2_step3 (N : Nat) (m : Nat) (kX : St → Option (Int × Unit)) (kO : Nat → St → Option (Int × Unit)) (w0 : Y4) (open5 : Int) (i6 : Int) : zz2_R3 N (m + 1) (zz2_E3 kX kO) w0 open5 i6 = zz2_b3 (zz2_R3 N m (zz2_E3 kX kO)) (zz2_X3 kX) w0 open5 i6 := by kernel_rfl
theorem zz2_iter3 (N : Nat) (kX : St → Option (Int × Unit)) (kO : Nat → St → Option (Int × Unit)) : ∀ (n : Nat) (w0 : Y4) (open5 : Int) (i6 : Int), zz2_R3 N n (zz2_E3 kX kO) w0 open5 i6 = zz2_l3 N (zz2_X3 kX) n w0 open5 i6
  | 0, _, _, _ => rfl
  | m + 1, w0, open5, i6 => by
    have hrec : zz2_R3 N m (zz2_E3 kX kO) = (zz2_l3 N (zz2_X3 kX) m) := (funext fun w0 => (funext fun open5 => (funext fun i6 => zz2_iter3 N kX kO m w0 open5 i6)))
    refine (zz2_step3 N m kX kO w0 open5 i6).trans ?_
    rw [hrec]
    rfl
noncomputable abbrev zz2_K3 (N : Nat) : Ex → St → Option (Int × Unit) := (blockK 0 (seqK ((A_zz2).shape 25) (run (A_zz2) N (codeAt Try.f78 [1, 1, 1])) zz2_z))
noncomputable abbrev zz2_k3 (N : Nat) : St → Option (Int × Unit) := fun st' => run (A_zz2) N (codeAt Try.f78 [1, 1, 1]) st' zz2_z
theorem zz2_after3 (N : Nat) : zz2_X3 (zz2_k3 N) = zz2_a3 := by kernel_rfl
theorem zz2_in3 (N : Nat) (w0 : Y4) (open5 : Int) (i6 : Int) : zz2_R3 N N (zz2_K3 N) w0 open5 i6 = zz2_F3 N w0 open5 i6 :=
  have h : zz2_X3 (zz2_k3 N) = (zz2_a3) := zz2_after3 N
  ((iter_ex (fun st => by kernel_rfl) (fun st => by kernel_rfl)).trans (zz2_iter3 N (zz2_k3 N) (fun j st => (zz2_K3 N) (.exit j) st) N w0 open5 i6)).trans (congrArg (fun k => zz2_l3 N k N w0 open5 i6) h)
theorem run0_zz2 (N : Nat) (x : (S_zz2).a.den) : runF (A_zz2) N Try.f78 S_zz2 x = (zz2_s (zz2_R3 N N (zz2_K3 N)) x.1 x.2.1) := by kernel_rfl
theorem run_zz2 (N : Nat) (x : (S_zz2).a.den) : runF (A_zz2) N Try.f78 S_zz2 x = zz2 N x.1 x.2.1 := by
  refine (run0_zz2 N x).trans ?_
  rw [(funext fun w0 => (funext fun open5 => (funext fun i6 => zz2_in3 N w0 open5 i6)))]
  rfl
theorem fn_zz2 : FnOk Try.prog 78 := ⟨_, Try.func78, by kernel_rfl, by kernel_rfl⟩
theorem good_zz2 : Gx.Good Try.prog 78 S_zz2 := good_of_run Try.func78 (of_decide_eq_true (by kernel_rfl)) fun x r h => ⟨A_zz2, big, mkCfg_ok tabOk, mkCfg_sigs (show SigsOk Try.prog [(77, S_zz1)] from ⟨⟨fn_zz1, good_zz1⟩, trivial⟩), (run_zz2 big x).trans h⟩

/-! zz3 -/
def zz3_s (w_0 : Y4) : Option (Bool × Unit) :=
  cond (decide ((w_0.length : Int) ≤ (40 : Int)))
  ((zz2 big w_0 (0 : Int)).bind fun rq1 =>
  cond (decide (rq1.1 = (w_0.length : Int)))
  (some (decide ((0 : Int) < (w_0.length : Int)), (())))
  (some (false, (()))))
  (some (false, (())))
def zz3 (w_0 : Y4) : Option (Bool × Unit) := zz3_s w_0
def S_zz3 : Sig := { a := (.pair (.sl I) .unit), md := [0], mf := [], m := .unit, r := .bool, rf := .i, f := fun x => zz3 x.1 }
def A_zz3 : Cfg := mkCfg tab [(78, S_zz2)] []
theorem run_zz3 (N : Nat) (x : (S_zz3).a.den) : runF (A_zz3) N Try.f40 S_zz3 x = zz3 x.1 := by kernel_rfl
theorem fn_zz3 : FnOk Try.prog 40 := ⟨_, Try.func40, by kernel_rfl, by kernel_rfl⟩
theorem good_zz3 : Gx.Good Try.prog 40 S_zz3 := good_of_run Try.func40 (of_decide_eq_true (by kernel_rfl)) fun x r h => ⟨A_zz3, big, mkCfg_ok tabOk, mkCfg_sigs (show SigsOk Try.prog [(78, S_zz2)] from ⟨⟨fn_zz2, good_zz2⟩, trivial⟩), (run_zz3 big x).trans h⟩

/-! zz4 -/
def zz4_s (s_0 : Y4) (t_1 : Y4) : Option (Bool × Unit) :=
  (zz3 s_0).bind fun rq1 =>
  cond rq1.1
  ((zz3 t_1).bind fun rq2 =>
  some (rq2.1, (())))
  (some (false, (())))
def zz4 (s_0 : Y4) (t_1 : Y4) : Option (Bool × Unit) := zz4_s s_0 t_1
def S_zz4 : Sig := { a := (.pair (.sl I) (.pair (.sl I) .unit)), md := [0, 0], mf := [], m := .unit, r := .bool, rf := .i, f := fun x => zz4 x.1 x.2.1 }
def A_zz4 : Cfg := mkCfg tab [(40, S_zz3)] []
theorem run_zz4 (N : Nat) (x : (S_zz4).a.den) : runF (A_zz4) N Try.f34 S_zz4 x = zz4 x.1 x.2.1 := by kernel_rfl
theorem fn_zz4 : FnOk Try.prog 34 := ⟨_, Try.func34, by kernel_rfl, by kernel_rfl⟩
theorem good_zz4 : Gx.Good Try.prog 34 S_zz4 := good_of_run Try.func34 (of_decide_eq_true (by kernel_rfl)) fun x r h => ⟨A_zz4, big, mkCfg_ok tabOk, mkCfg_sigs (show SigsOk Try.prog [(40, S_zz3)] from ⟨⟨fn_zz3, good_zz3⟩, trivial⟩), (run_zz4 big x).trans h⟩

/-! types of zz5+zz6 -/
def T_zz5 (self : (Y4 × (Y4 × (Int × Y6))) → Option (Bool × (Y4 × Unit))) : Sig := { a := (.pair (.sl I) (.pair (.sl I) (.pair I (.pair I (.pair (.sl I) .unit))))), md := [0, 0, 0, 0, 1], mf := [(.o .i)], m := (.pair (.sl I) .unit), r := .bool, rf := .i, f := self }
def T_zz6 (self : (Y4 × (Y4 × (Int × Y6))) → Option (Bool × (Y4 × Unit))) : Sig := { a := (.pair (.sl I) (.pair (.sl I) (.pair I (.pair I (.pair (.sl I) .unit))))), md := [0, 0, 0, 0, 1], mf := [(.o .i)], m := (.pair (.sl I) .unit), r := .bool, rf := .i, f := self }

/-! zz5 -/
def zz5_s (self_zz5 : (Y4 × (Y4 × (Int × Y6))) → Option (Bool × (Y4 × Unit))) (self_zz6 : (Y4 × (Y4 × (Int × Y6))) → Option (Bool × (Y4 × Unit))) (s_0 : Y4) (t_1 : Y4) (i_2 : Int) (k_3 : Int) (known_4 : Y4) : Option (Bool × (Y4 × Unit)) :=
  (atI known_4 (IntKind.i64.wrap ((IntKind.i64.wrap (i_2 * (t_1.length : Int))) + k_3))).bind fun _ =>
  (known_4[(IntKind.i64.wrap ((IntKind.i64.wrap (i_2 * (t_1.length : Int))) + k_3)).toNat]?).bind fun xq1 =>
  cond (decide (xq1 = (0 : Int)))
  ((atI known_4 (IntKind.i64.wrap ((IntKind.i64.wrap (i_2 * (t_1.length : Int))) + k_3))).bind fun _ =>
  (known_4[(IntKind.i64.wrap ((IntKind.i64.wrap (i_2 * (t_1.length : Int))) + k_3)).toNat]?).bind fun xq2 =>
  (self_zz6 (s_0, t_1, i_2, k_3, known_4.set ((IntKind.i64.wrap ((IntKind.i64.wrap (i_2 * (t_1.length : Int))) + k_3)).toNat) (2 : Int), ())).bind fun rq3 =>
  cond rq3.1
  ((atI rq3.2.1 (IntKind.i64.wrap ((IntKind.i64.wrap (i_2 * (t_1.length : Int))) + k_3))).bind fun _ =>
  (rq3.2.1[(IntKind.i64.wrap ((IntKind.i64.wrap (i_2 * (t_1.length : Int))) + k_3)).toNat]?).bind fun xq4 =>
  (atI (rq3.2.1.set ((IntKind.i64.wrap ((IntKind.i64.wrap (i_2 * (t_1.length : Int))) + k_3)).toNat) (1 : Int)) (IntKind.i64.wrap ((IntKind.i64.wrap (i_2 * (t_1.length : Int))) + k_3))).bind fun _ =>
  ((rq3.2.1.set ((IntKind.i64.wrap ((IntKind.i64.wrap (i_2 * (t_1.length : Int))) + k_3)).toNat) (1 : Int))[(IntKind.i64.wrap ((IntKind.i64.wrap (i_2 * (t_1.length : Int))) + k_3)).toNat]?).bind fun xq5 =>
  some (decide (xq5 = (1 : Int)), (rq3.2.1.set ((IntKind.i64.wrap ((IntKind.i64.wrap (i_2 * (t_1.length : Int))) + k_3)).toNat) (1 : Int), ())))
  ((atI rq3.2.1 (IntKind.i64.wrap ((IntKind.i64.wrap (i_2 * (t_1.length : Int))) + k_3))).bind fun _ =>
  (rq3.2.1[(IntKind.i64.wrap ((IntKind.i64.wrap (i_2 * (t_1.length : Int))) + k_3)).toNat]?).bind fun xq6 =>
  some (decide (xq6 = (1 : Int)), (rq3.2.1, ()))))
  ((atI known_4 (IntKind.i64.wrap ((IntKind.i64.wrap (i_2 * (t_1.length : Int))) + k_3))).bind fun _ =>
  (known_4[(IntKind.i64.wrap ((IntKind.i64.wrap (i_2 * (t_1.length : Int))) + k_3)).toNat]?).bind fun xq7 =>
  some (decide (xq7 = (1 : Int)), (known_4, ())))
def zz5 (self_zz5 : (Y4 × (Y4 × (Int × Y6))) → Option (Bool × (Y4 × Unit))) (self_zz6 : (Y4 × (Y4 × (Int × Y6))) → Option (Bool × (Y4 × Unit))) (s_0 : Y4) (t_1 : Y4) (i_2 : Int) (k_3 : Int) (known_4 : Y4) : Option (Bool × (Y4 × Unit)) := zz5_s self_zz5 self_zz6 s_0 t_1 i_2 k_3 known_4
def A_zz5 (self_zz5 : (Y4 × (Y4 × (Int × Y6))) → Option (Bool × (Y4 × Unit))) (self_zz6 : (Y4 × (Y4 × (Int × Y6))) → Option (Bool × (Y4 × Unit))) : Cfg := mkCfg tab [(104, T_zz6 self_zz6)] []
theorem run_zz5 (self_zz5 : (Y4 × (Y4 × (Int × Y6))) → Option (Bool × (Y4 × Unit))) (self_zz6 : (Y4 × (Y4 × (Int × Y6))) → Option (Bool × (Y4 × Unit))) (N : Nat) (x : ((T_zz5 self_zz5)).a.den) : runF (A_zz5 self_zz5 self_zz6) N Try.f75 (T_zz5 self_zz5) x = zz5 self_zz5 self_zz6 x.1 x.2.1 x.2.2.1 x.2.2.2.1 x.2.2.2.2.1 := by kernel_rfl
theorem fn_zz5 : FnOk Try.prog 75 := ⟨_, Try.func75, by kernel_rfl, by kernel_rfl⟩

/-! zz6 -/
def zz6_s (self_zz5 : (Y4 × (Y4 × (Int × Y6))) → Option (Bool × (Y4 × Unit))) (self_zz6 : (Y4 × (Y4 × (Int × Y6))) → Option (Bool × (Y4 × Unit))) (s_0 : Y4) (t_1 : Y4) (i_2 : Int) (k_3 : Int) (known_4 : Y4) : Option (Bool × (Y4 × Unit)) :=
  (atI s_0 i_2).bind fun xq1 =>
  cond (decide (xq1 = (-2 : Int)))
  ((self_zz5 (s_0, t_1, IntKind.i64.wrap (i_2 + (1 : Int)), k_3, known_4, ())).bind fun rq2 =>
  cond rq2.1
  ((zz2 big s_0 (IntKind.i64.wrap (i_2 + (1 : Int)))).bind fun rq3 =>
  (self_zz5 (s_0, t_1, rq3.1, k_3, rq2.2.1, ())).bind fun rq4 =>
  some (rq4.1, (rq4.2.1, ())))
  (some (false, (rq2.2.1, ()))))
  ((atI t_1 k_3).bind fun xq5 =>
  cond (decide (xq5 = (-1 : Int)))
  ((self_zz5 (s_0, t_1, i_2, IntKind.i64.wrap (k_3 + (1 : Int)), known_4, ())).bind fun rq6 =>
  cond rq6.1
  ((zz2 big t_1 (IntKind.i64.wrap (k_3 + (1 : Int)))).bind fun rq7 =>
  (self_zz5 (s_0, t_1, i_2, rq7.1, rq6.2.1, ())).bind fun rq8 =>
  some (rq8.1, (rq8.2.1, ())))
  (some (false, (rq6.2.1, ()))))
  ((atI s_0 i_2).bind fun xq9 =>
  cond (decide ((0 : Int) ≤ xq9))
  ((atI t_1 k_3).bind fun xq10 =>
  cond (decide ((0 : Int) ≤ xq10))
  ((atI s_0 i_2).bind fun xq11 =>
  (atI t_1 k_3).bind fun xq12 =>
  some (decide (xq11 = xq12), (known_4, ())))
  ((atI s_0 i_2).bind fun xq13 =>
  cond (decide (xq13 = (-1 : Int)))
  ((self_zz5 (s_0, t_1, IntKind.i64.wrap (i_2 + (1 : Int)), k_3, known_4, ())).bind fun rq14 =>
  cond rq14.1
  (some (true, (rq14.2.1, ())))
  ((zz2 big s_0 (IntKind.i64.wrap (i_2 + (1 : Int)))).bind fun rq15 =>
  (self_zz5 (s_0, t_1, rq15.1, k_3, rq14.2.1, ())).bind fun rq16 =>
  cond rq16.1
  (some (true, (rq16.2.1, ())))
  ((atI t_1 k_3).bind fun xq17 =>
  cond (decide (xq17 = (-2 : Int)))
  ((self_zz5 (s_0, t_1, i_2, IntKind.i64.wrap (k_3 + (1 : Int)), rq16.2.1, ())).bind fun rq18 =>
  cond rq18.1
  (some (true, (rq18.2.1, ())))
  ((zz2 big t_1 (IntKind.i64.wrap (k_3 + (1 : Int)))).bind fun rq19 =>
  (self_zz5 (s_0, t_1, i_2, rq19.1, rq18.2.1, ())).bind fun rq20 =>
  some (rq20.1, (rq20.2.1, ()))))
  (some (false, (rq16.2.1, ()))))))
  ((atI t_1 k_3).bind fun xq21 =>
  cond (decide (xq21 = (-2 : Int)))
  ((self_zz5 (s_0, t_1, i_2, IntKind.i64.wrap (k_3 + (1 : Int)), known_4, ())).bind fun rq22 =>
  cond rq22.1
  (some (true, (rq22.2.1, ())))
  ((zz2 big t_1 (IntKind.i64.wrap (k_3 + (1 : Int)))).bind fun rq23 =>
  (self_zz5 (s_0, t_1, i_2, rq23.1, rq22.2.1, ())).bind fun rq24 =>
  some (rq24.1, (rq24.2.1, ()))))
  (some (false, (known_4, ()))))))
  ((atI s_0 i_2).bind fun xq25 =>
  cond (decide (xq25 = (-1 : Int)))
  ((self_zz5 (s_0, t_1, IntKind.i64.wrap (i_2 + (1 : Int)), k_3, known_4, ())).bind fun rq26 =>
  cond rq26.1
  (some (true, (rq26.2.1, ())))
  ((zz2 big s_0 (IntKind.i64.wrap (i_2 + (1 : Int)))).bind fun rq27 =>
  (self_zz5 (s_0, t_1, rq27.1, k_3, rq26.2.1, ())).bind fun rq28 =>
  cond rq28.1
  (some (true, (rq28.2.1, ())))
  ((atI t_1 k_3).bind fun xq29 =>
  cond (decide (xq29 = (-2 : Int)))
  ((self_zz5 (s_0, t_1, i_2, IntKind.i64.wrap (k_3 + (1 : Int)), rq28.2.1, ())).bind fun rq30 =>
  cond rq30.1
  (some (true, (rq30.2.1, ())))
  ((zz2 big t_1 (IntKind.i64.wrap (k_3 + (1 : Int)))).bind fun rq31 =>
  (self_zz5 (s_0, t_1, i_2, rq31.1, rq30.2.1, ())).bind fun rq32 =>
  some (rq32.1, (rq32.2.1, ()))))
  (some (false, (rq28.2.1, ()))))))
  ((atI t_1 k_3).bind fun xq33 =>
  cond (decide (xq33 = (-2 : Int)))
  ((self_zz5 (s_0, t_1, i_2, IntKind.i64.wrap (k_3 + (1 : Int)), known_4, ())).bind fun rq34 =>
  cond rq34.1
  (some (true, (rq34.2.1, ())))
  ((zz2 big t_1 (IntKind.i64.wrap (k_3 + (1 : Int)))).bind fun rq35 =>
  (self_zz5 (s_0, t_1, i_2, rq35.1, rq34.2.1, ())).bind fun rq36 =>
  some (rq36.1, (rq36.2.1, ()))))
  (some (false, (known_4, ())))))))
def zz6 (self_zz5 : (Y4 × (Y4 × (Int × Y6))) → Option (Bool × (Y4 × Unit))) (self_zz6 : (Y4 × (Y4 × (Int × Y6))) → Option (Bool × (Y4 × Unit))) (s_0 : Y4) (t_1 : Y4) (i_2 : Int) (k_3 : Int) (known_4 : Y4) : Option (Bool × (Y4 × Unit)) := zz6_s self_zz5 self_zz6 s_0 t_1 i_2 k_3 known_4
def A_zz6 (self_zz5 : (Y4 × (Y4 × (Int × Y6))) → Option (Bool × (Y4 × Unit))) (self_zz6 : (Y4 × (Y4 × (Int × Y6))) → Option (Bool × (Y4 × Unit))) : Cfg := mkCfg tab [(75, T_zz5 self_zz5), (78, S_zz2)] []
theorem run_zz6 (self_zz5 : (Y4 × (Y4 × (Int × Y6))) → Option (Bool × (Y4 × Unit))) (self_zz6 : (Y4 × (Y4 × (Int × Y6))) → Option (Bool × (Y4 × Unit))) (N : Nat) (x : ((T_zz6 self_zz6)).a.den) : runF (A_zz6 self_zz5 self_zz6) N Try.f104 (T_zz6 self_zz6) x = zz6 self_zz5 self_zz6 x.1 x.2.1 x.2.2.1 x.2.2.2.1 x.2.2.2.2.1 := by kernel_rfl
theorem fn_zz6 : FnOk Try.prog 104 := ⟨_, Try.func104, by kernel_rfl, by kernel_rfl⟩

/-! zz26 -/
def RR_spec_l28From_spec_l28Ask : Nat → ((Y4 × (Y4 × (Int × Y6))) → Option (Bool × (Y4 × Unit))) × ((Y4 × (Y4 × (Int × Y6))) → Option (Bool × (Y4 × Unit)))
  | 0 => (fun _ => none, fun _ => none)
  | d + 1 => (fun x => zz5 (RR_spec_l28From_spec_l28Ask d).1 (RR_spec_l28From_spec_l28Ask d).2 x.1 x.2.1 x.2.2.1 x.2.2.2.1 x.2.2.2.2.1, fun x => zz6 (RR_spec_l28From_spec_l28Ask d).1 (RR_spec_l28From_spec_l28Ask d).2 x.1 x.2.1 x.2.2.1 x.2.2.2.1 x.2.2.2.2.1)
def R_zz5 (d : Nat) : (Y4 × (Y4 × (Int × Y6))) → Option (Bool × (Y4 × Unit)) := (RR_spec_l28From_spec_l28Ask d).1
def S_zz5 : Sig := T_zz5 (R_zz5 big)
def R_zz6 (d : Nat) : (Y4 × (Y4 × (Int × Y6))) → Option (Bool × (Y4 × Unit)) := (RR_spec_l28From_spec_l28Ask d).2
def S_zz6 : Sig := T_zz6 (R_zz6 big)
theorem goodRR_spec_l28From_spec_l28Ask : ∀ d, Gx.Good Try.prog 75 (T_zz5 (R_zz5 d)) ∧ Gx.Good Try.prog 104 (T_zz6 (R_zz6 d))
  | 0 => ⟨(fun x r h => by cases (show (none : Option _) = some r from h)), (fun x r h => by cases (show (none : Option _) = some r from h))⟩
  | d + 1 => ⟨(good_of_run Try.func75 (of_decide_eq_true (by kernel_rfl)) fun x r h => ⟨A_zz5 (R_zz5 d) (R_zz6 d), big, mkCfg_ok tabOk, mkCfg_sigs (show SigsOk Try.prog [(104, T_zz6 (R_zz6 d))] from ⟨⟨fn_zz6, (goodRR_spec_l28From_spec_l28Ask d).2⟩, trivial⟩), (run_zz5 (R_zz5 d) (R_zz6 d) big x).trans h⟩), (good_of_run Try.func104 (of_decide_eq_true (by kernel_rfl)) fun x r h => ⟨A_zz6 (R_zz5 d) (R_zz6 d), big, mkCfg_ok tabOk, mkCfg_sigs (show SigsOk Try.prog [(75, T_zz5 (R_zz5 d)), (78, S_zz2)] from ⟨⟨fn_zz5, (goodRR_spec_l28From_spec_l28Ask d).1⟩, ⟨fn_zz2, good_zz2⟩, trivial⟩), (run_zz6 (R_zz5 d) (R_zz6 d) big x).trans h⟩)⟩
theorem good_zz5 : Gx.Good Try.prog 75 S_zz5 := (goodRR_spec_l28From_spec_l28Ask big).1
theorem good_zz6 : Gx.Good Try.prog 104 S_zz6 := (goodRR_spec_l28From_spec_l28Ask big).2

/-! zz8 -/
def zz8_s (s_0 : Y4) (t_1 : Y4) : Option (Bool × Unit) :=
  (mkI (0 : Int) (IntKind.i64.wrap ((s_0.length : Int) * (t_1.length : Int)))).bind fun xq1 => (mkI (0 : Int) (IntKind.i64.wrap ((s_0.length : Int) * (t_1.length : Int)))).bind fun xq2 => cond (decide ((IntKind.i64.wrap ((s_0.length : Int) * (t_1.length : Int))) ≤ (IntKind.i64.wrap ((s_0.length : Int) * (t_1.length : Int)))))
  ((R_zz5 big (s_0, t_1, (0 : Int), (0 : Int), xq2, ())).bind fun rq3 =>
  some (rq3.1, (())))
  none
def zz8 (s_0 : Y4) (t_1 : Y4) : Option (Bool × Unit) := zz8_s s_0 t_1
def S_zz8 : Sig := { a := (.pair (.sl I) (.pair (.sl I) .unit)), md := [0, 0], mf := [], m := .unit, r := .bool, rf := .i, f := fun x => zz8 x.1 x.2.1 }
def A_zz8 : Cfg := mkCfg tab [(75, S_zz5)] []
theorem run_zz8 (N : Nat) (x : (S_zz8).a.den) : runF (A_zz8) N Try.f35 S_zz8 x = zz8 x.1 x.2.1 := by kernel_rfl
theorem fn_zz8 : FnOk Try.prog 35 := ⟨_, Try.func35, by kernel_rfl, by kernel_rfl⟩
theorem good_zz8 : Gx.Good Try.prog 35 S_zz8 := good_of_run Try.func35 (of_decide_eq_true (by kernel_rfl)) fun x r h => ⟨A_zz8, big, mkCfg_ok tabOk, mkCfg_sigs (show SigsOk Try.prog [(75, S_zz5)] from ⟨⟨fn_zz5, good_zz5⟩, trivial⟩), (run_zz8 big x).trans h⟩

/-! zz9 -/
def zz9_s (s_0 : Y4) (t_1 : Y4) : Option ((Bool × (Bool × Unit)) × Unit) :=
  (zz4 s_0 t_1).bind fun rq1 =>
  cond (!rq1.1)
  (some ((false, false, ()), (())))
  ((zz8 s_0 t_1).bind fun rq2 =>
  some ((rq2.1, true, ()), (())))
def zz9 (s_0 : Y4) (t_1 : Y4) : Option ((Bool × (Bool × Unit)) × Unit) := zz9_s s_0 t_1
def S_zz9 : Sig := { a := (.pair (.sl I) (.pair (.sl I) .unit)), md := [0, 0], mf := [], m := .unit, r := (.tup (.pair .bool (.pair .bool .unit))), rf := .i, f := fun x => zz9 x.1 x.2.1 }
def A_zz9 : Cfg := mkCfg tab [(34, S_zz4), (35, S_zz8)] []
theorem run_zz9 (N : Nat) (x : (S_zz9).a.den) : runF (A_zz9) N Try.f8 S_zz9 x = zz9 x.1 x.2.1 := by kernel_rfl
theorem fn_zz9 : FnOk Try.prog 8 := ⟨_, Try.func8, by kernel_rfl, by kernel_rfl⟩
theorem good_zz9 : Gx.Good Try.prog 8 S_zz9 := good_of_run Try.func8 (of_decide_eq_true (by kernel_rfl)) fun x r h => ⟨A_zz9, big, mkCfg_ok tabOk, mkCfg_sigs (show SigsOk Try.prog [(34, S_zz4), (35, S_zz8)] from ⟨⟨fn_zz4, good_zz4⟩, ⟨fn_zz8, good_zz8⟩, trivial⟩), (run_zz9 big x).trans h⟩

/-! zz10 -/
def zz10_b2 (rec : Y4 → Int → Int → Option (Int × Unit)) (k : Int → Option (Int × Unit)) (w0 : Y4) (at1 : Int) (need5 : Int) : Option (Int × Unit) :=
  cond (decide ((0 : Int) < need5))
  (cond (decide ((w0.length : Int) ≤ at1))
  (some ((-1 : Int), (())))
  ((atI w0 at1).bind fun xq1 =>
  cond (decide (xq1 < (-2 : Int)))
  (some ((-1 : Int), (())))
  ((atI w0 at1).bind fun xq2 =>
  cond (decide ((5 : Int) ≤ xq2))
  (some ((-1 : Int), (())))
  ((atI w0 at1).bind fun xq3 =>
  cond (decide ((0 : Int) ≤ xq3))
  (rec w0 (IntKind.i64.wrap (at1 + (1 : Int))) (IntKind.i64.wrap (need5 - (1 : Int))))
  (rec w0 (IntKind.i64.wrap (at1 + (1 : Int))) (IntKind.i64.wrap (need5 + (1 : Int))))))))
  (k at1)
def zz10_a2 (at1 : Int) : Option (Int × Unit) :=
  some (at1, (()))
def zz10_s (L2 : Y4 → Int → Int → Option (Int × Unit)) (w_0 : Y4) (at_1 : Int) : Option (Int × Unit) :=
  L2 w_0 at_1 (1 : Int)
def zz10_l2 (N : Nat) (k : Int → Option (Int × Unit)) : Nat → Y4 → Int → Int → Option (Int × Unit)
  | 0, _, _, _ => none
  | m + 1, w0, at1, need5 => zz10_b2 (zz10_l2 N k m) k w0 at1 need5
def zz10_F2 (N : Nat) (w0 : Y4) (at1 : Int) (need5 : Int) : Option (Int × Unit) := zz10_l2 N (zz10_a2) N w0 at1 need5
def zz10 (N : Nat) (w_0 : Y4) (at_1 : Int) : Option (Int × Unit) := zz10_s (zz10_F2 N) w_0 at_1
def S_zz10 : Sig := { a := (.pair (.sl I) (.pair I .unit)), md := [0, 0], mf := [], m := .unit, r := I, rf := .i, f := fun x => zz10 big x.1 x.2.1 }
def A_zz10 : Cfg := mkCfg tab [] [(4, [.as (.sl I) .i, .as I .i, .drop, .drop, .drop, .as I .i]), (19, [.drop, .as I .i])]
noncomputable def zz10_R2 (N n : Nat) (K : Ex → St → Option (Int × Unit)) (w0 : Y4) (at1 : Int) (need5 : Int) : Option (Int × Unit) := iter ((A_zz10).shape 4) (run (A_zz10) N (codeAt Try.f79 [1, 0, 1, 0, 0])) n ([.val (.sl I) .i w0, .val I .i at1, .u, .u, .u, .val I .i need5] ++ List.replicate 32 .u) K
noncomputable abbrev zz10_z : Ex → St → Option (Int × Unit) := finish (A_zz10) S_zz10 Try.f79.results.toList
noncomputable abbrev zz10_X2 (kX : St → Option (Int × Unit)) : Int → Option (Int × Unit) := fun (at1 : Int) => kX ([.u, .val I .i at1] ++ List.replicate 36 .u)
noncomputable abbrev zz10_E2 (kX : St → Option (Int × Unit)) (kO : Nat → St → Option (Int × Unit)) : Ex → St → Option (Int × Unit) := exK zz10_z 0 ((A_zz10).shape 19) kX kO
theorem zz10_step2 (N : Nat) (m : Nat) (kX : St → Option (Int × Unit)) (kO : Nat → St → Option (Int × Unit)) (w0 : Y4) (at1 : Int) (need5 : Int) : zz10_R2 N (m + 1) (zz10_E2 kX kO) w0 at1 need5 = zz10_b2 (zz10_R2 N m (zz10_E2 kX kO)) (zz10_X2 kX) w0 at1 need5 := by kernel_rfl
theorem zz10_iter2 (N : Nat) (kX : St → Option (Int × Unit)) (kO : Nat → St → Option (Int × Unit)) : ∀ (n : Nat) (w0 : Y4) (at1 : Int) (need5 : Int), zz10_R2 N n (zz10_E2 kX kO) w0 at1 need5 = zz10_l2 N (zz10_X2 kX) n w0 at1 need5
  | 0, _, _, _ => rfl
  | m + 1, w0, at1, need5 => by
    have hrec : zz10_R2 N m (zz10_E2 kX kO) = (zz10_l2 N (zz10_X2 kX) m) := (funext fun w0 => (funext fun at1 => (funext fun need5 => zz10_iter2 N kX kO m w0 at1 need5)))
    refine (zz10_step2 N m kX kO w0 at1 need5).trans ?_
    rw [hrec]
    rfl
noncomputable abbrev zz10_K2 (N : Nat) : Ex → St → Option (Int × Unit) := (blockK 0 (seqK ((A_zz10).shape 19) (run (A_zz10) N (codeAt Try.f79 [1, 1])) zz10_z))
noncomputable abbrev zz10_k2 (N : Nat) : St → Option (Int × Unit) := fun st' => run (A_zz10) N (codeAt Try.f79 [1, 1]) st' zz10_z
theorem zz10_after2 (N : Nat) (at1 : Int) : zz10_X2 (zz10_k2 N) at1 = zz10_a2 at1 := by kernel_rfl
theorem zz10_in2 (N : Nat) (w0 : Y4) (at1 : Int) (need5 : Int) : zz10_R2 N N (zz10_K2 N) w0 at1 need5 = zz10_F2 N w0 at1 need5 :=
  have h : zz10_X2 (zz10_k2 N) = (zz10_a2) := (funext fun at1 => zz10_after2 N at1)
  ((iter_ex (fun st => by kernel_rfl) (fun st => by kernel_rfl)).trans (zz10_iter2 N (zz10_k2 N) (fun j st => (zz10_K2 N) (.exit j) st) N w0 at1 need5)).trans (congrArg (fun k => zz10_l2 N k N w0 at1 need5) h)
theorem run0_zz10 (N : Nat) (x : (S_zz10).a.den) : runF (A_zz10) N Try.f79 S_zz10 x = (zz10_s (zz10_R2 N N (zz10_K2 N)) x.1 x.2.1) := by kernel_rfl
theorem run_zz10 (N : Nat) (x : (S_zz10).a.den) : runF (A_zz10) N Try.f79 S_zz10 x = zz10 N x.1 x.2.1 := by
  refine (run0_zz10 N x).trans ?_
  rw [(funext fun w0 => (funext fun at1 => (funext fun need5 => zz10_in2 N w0 at1 need5)))]
  rfl
theorem fn_zz10 : FnOk Try.prog 79 := ⟨_, Try.func79, by kernel_rfl, by kernel_rfl⟩
theorem good_zz10 : Gx.Good Try.prog 79 S_zz10 := good_of_run Try.func79 (of_decide_eq_true (by kernel_rfl)) fun x r h => ⟨A_zz10, big, mkCfg_ok tabOk, mkCfg_sigs (show SigsOk Try.prog [] from trivial), (run_zz10 big x).trans h⟩

/-! zz11 -/
def zz11_s (w_0 : Y4) : Option (Bool × Unit) :=
  cond (decide ((w_0.length : Int) ≤ (40 : Int)))
  ((zz10 big w_0 (0 : Int)).bind fun rq1 =>
  some (decide (rq1.1 = (w_0.length : Int)), (())))
  (some (false, (())))
def zz11 (w_0 : Y4) : Option (Bool × Unit) := zz11_s w_0
def S_zz11 : Sig := { a := (.pair (.sl I) .unit), md := [0], mf := [], m := .unit, r := .bool, rf := .i, f := fun x => zz11 x.1 }
def A_zz11 : Cfg := mkCfg tab [(79, S_zz10)] []
theorem run_zz11 (N : Nat) (x : (S_zz11).a.den) : runF (A_zz11) N Try.f42 S_zz11 x = zz11 x.1 := by kernel_rfl
theorem fn_zz11 : FnOk Try.prog 42 := ⟨_, Try.func42, by kernel_rfl, by kernel_rfl⟩
theorem good_zz11 : Gx.Good Try.prog 42 S_zz11 := good_of_run Try.func42 (of_decide_eq_true (by kernel_rfl)) fun x r h => ⟨A_zz11, big, mkCfg_ok tabOk, mkCfg_sigs (show SigsOk Try.prog [(79, S_zz10)] from ⟨⟨fn_zz10, good_zz10⟩, trivial⟩), (run_zz11 big x).trans h⟩

/-! zz12 -/
def zz12_s (s_0 : Y4) (t_1 : Y4) : Option (Bool × Unit) :=
  (zz11 s_0).bind fun rq1 =>
  cond rq1.1
  ((zz11 t_1).bind fun rq2 =>
  some (rq2.1, (())))
  (some (false, (())))
def zz12 (s_0 : Y4) (t_1 : Y4) : Option (Bool × Unit) := zz12_s s_0 t_1
def S_zz12 : Sig := { a := (.pair (.sl I) (.pair (.sl I) .unit)), md := [0, 0], mf := [], m := .unit, r := .bool, rf := .i, f := fun x => zz12 x.1 x.2.1 }
def A_zz12 : Cfg := mkCfg tab [(42, S_zz11)] []
theorem run_zz12 (N : Nat) (x : (S_zz12).a.den) : runF (A_zz12) N Try.f36 S_zz12 x = zz12 x.1 x.2.1 := by kernel_rfl
theorem fn_zz12 : FnOk Try.prog 36 := ⟨_, Try.func36, by kernel_rfl, by kernel_rfl⟩
theorem good_zz12 : Gx.Good Try.prog 36 S_zz12 := good_of_run Try.func36 (of_decide_eq_true (by kernel_rfl)) fun x r h => ⟨A_zz12, big, mkCfg_ok tabOk, mkCfg_sigs (show SigsOk Try.prog [(42, S_zz11)] from ⟨⟨fn_zz11, good_zz11⟩, trivial⟩), (run_zz12 big x).trans h⟩

/-! types of zz13+zz14 -/
def T_zz13 (self : ((Y4 × (Y4 × ((List ((Int × (Int × Unit)) × Bool)) × Unit))) × (Int × (Int × Unit))) → Option (Bool × ((Y4 × (Y4 × ((List ((Int × (Int × Unit)) × Bool)) × Unit))) × Unit))) : Sig := { a := (.pair (.ptr (.pair (.sl I) (.pair (.sl I) (.pair (.map (.pair I (.pair I .unit)) .bool) .unit)))) (.pair I (.pair I .unit))), md := [1, 0, 0], mf := [(.o (.p .i (.p .i (.p (.o .i) .i))))], m := (.pair (.ptr (.pair (.sl I) (.pair (.sl I) (.pair (.map (.pair I (.pair I .unit)) .bool) .unit)))) .unit), r := .bool, rf := .i, f := self }
def T_zz14 (self : ((Y4 × (Y4 × ((List ((Int × (Int × Unit)) × Bool)) × Unit))) × (Int × (Int × Unit))) → Option (Bool × ((Y4 × (Y4 × ((List ((Int × (Int × Unit)) × Bool)) × Unit))) × Unit))) : Sig := { a := (.pair (.ptr (.pair (.sl I) (.pair (.sl I) (.pair (.map (.pair I (.pair I .unit)) .bool) .unit)))) (.pair I (.pair I .unit))), md := [1, 0, 0], mf := [(.o (.p .i (.p .i (.p (.o .i) .i))))], m := (.pair (.ptr (.pair (.sl I) (.pair (.sl I) (.pair (.map (.pair I (.pair I .unit)) .bool) .unit)))) .unit), r := .bool, rf := .i, f := self }

/-! zz13 -/
def zz13_s (self_zz13 : ((Y4 × (Y4 × ((List ((Int × (Int × Unit)) × Bool)) × Unit))) × (Int × (Int × Unit))) → Option (Bool × ((Y4 × (Y4 × ((List ((Int × (Int × Unit)) × Bool)) × Unit))) × Unit))) (self_zz14 : ((Y4 × (Y4 × ((List ((Int × (Int × Unit)) × Bool)) × Unit))) × (Int × (Int × Unit))) → Option (Bool × ((Y4 × (Y4 × ((List ((Int × (Int × Unit)) × Bool)) × Unit))) × Unit))) (c_0 : (Y4 × (Y4 × ((List ((Int × (Int × Unit)) × Bool)) × Unit)))) (i_1 : Int) (k_2 : Int) : Option (Bool × ((Y4 × (Y4 × ((List ((Int × (Int × Unit)) × Bool)) × Unit))) × Unit)) :=
  cond (!(((Option.getD (mget (.pair I (.pair I .unit)) .bool c_0.2.2.1 (i_1, (k_2, ()))) false, (Option.isSome (mget (.pair I (.pair I .unit)) .bool c_0.2.2.1 (i_1, (k_2, ()))), ())).2).1))
  ((self_zz14 (c_0, i_1, k_2, ())).bind fun rq1 =>
  some (rq1.1, ((rq1.2.1.1, (rq1.2.1.2.1, (mput (.pair I (.pair I .unit)) .bool rq1.2.1.2.2.1 (i_1, (k_2, ())) rq1.1, rq1.2.1.2.2.2))), ())))
  (some ((Option.getD (mget (.pair I (.pair I .unit)) .bool c_0.2.2.1 (i_1, (k_2, ()))) false, (Option.isSome (mget (.pair I (.pair I .unit)) .bool c_0.2.2.1 (i_1, (k_2, ()))), ())).1, (c_0, ())))
def zz13 (self_zz13 : ((Y4 × (Y4 × ((List ((Int × (Int × Unit)) × Bool)) × Unit))) × (Int × (Int × Unit))) → Option (Bool × ((Y4 × (Y4 × ((List ((Int × (Int × Unit)) × Bool)) × Unit))) × Unit))) (self_zz14 : ((Y4 × (Y4 × ((List ((Int × (Int × Unit)) × Bool)) × Unit))) × (Int × (Int × Unit))) → Option (Bool × ((Y4 × (Y4 × ((List ((Int × (Int × Unit)) × Bool)) × Unit))) × Unit))) (c_0 : (Y4 × (Y4 × ((List ((Int × (Int × Unit)) × Bool)) × Unit)))) (i_1 : Int) (k_2 : Int) : Option (Bool × ((Y4 × (Y4 × ((List ((Int × (Int × Unit)) × Bool)) × Unit))) × Unit)) := zz13_s self_zz13 self_zz14 c_0 i_1 k_2
def A_zz13 (self_zz13 : ((Y4 × (Y4 × ((List ((Int × (Int × Unit)) × Bool)) × Unit))) × (Int × (Int × Unit))) → Option (Bool × ((Y4 × (Y4 × ((List ((Int × (Int × Unit)) × Bool)) × Unit))) × Unit))) (self_zz14 : ((Y4 × (Y4 × ((List ((Int × (Int × Unit)) × Bool)) × Unit))) × (Int × (Int × Unit))) → Option (Bool × ((Y4 × (Y4 × ((List ((Int × (Int × Unit)) × Bool)) × Unit))) × Unit))) : Cfg := mkCfg tab [(105, T_zz14 self_zz14)] []
theorem run_zz13 (self_zz13 : ((Y4 × (Y4 × ((List ((Int × (Int × Unit)) × Bool)) × Unit))) × (Int × (Int × Unit))) → Option (Bool × ((Y4 × (Y4 × ((List ((Int × (Int × Unit)) × Bool)) × Unit))) × Unit))) (self_zz14 : ((Y4 × (Y4 × ((List ((Int × (Int × Unit)) × Bool)) × Unit))) × (Int × (Int × Unit))) → Option (Bool × ((Y4 × (Y4 × ((List ((Int × (Int × Unit)) × Bool)) × Unit))) × Unit))) (N : Nat) (x : ((T_zz13 self_zz13)).a.den) : runF (A_zz13 self_zz13 self_zz14) N Try.f76 (T_zz13 self_zz13) x = zz13 self_zz13 self_zz14 x.1 x.2.1 x.2.2.1 := by kernel_rfl
theorem fn_zz13 : FnOk Try.prog 76 := ⟨_, Try.func76, by kernel_rfl, by kernel_rfl⟩

/-! zz14 -/
def zz14_s (self_zz13 : ((Y4 × (Y4 × ((List ((Int × (Int × Unit)) × Bool)) × Unit))) × (Int × (Int × Unit))) → Option (Bool × ((Y4 × (Y4 × ((List ((Int × (Int × Unit)) × Bool)) × Unit))) × Unit))) (self_zz14 : ((Y4 × (Y4 × ((List ((Int × (Int × Unit)) × Bool)) × Unit))) × (Int × (Int × Unit))) → Option (Bool × ((Y4 × (Y4 × ((List ((Int × (Int × Unit)) × Bool)) × Unit))) × Unit))) (c_0 : (Y4 × (Y4 × ((List ((Int × (Int × Unit)) × Bool)) × Unit)))) (i_1 : Int) (k_2 : Int) : Option (Bool × ((Y4 × (Y4 × ((List ((Int × (Int × Unit)) × Bool)) × Unit))) × Unit)) :=
  (atI c_0.1 i_1).bind fun xq1 =>
  (atI c_0.2.1 k_2).bind fun xq2 =>
  cond (decide (xq1 = (-2 : Int)))
  ((self_zz13 (c_0, IntKind.i64.wrap (i_1 + (1 : Int)), k_2, ())).bind fun rq3 =>
  cond rq3.1
  ((zz10 big rq3.2.1.1 (IntKind.i64.wrap (i_1 + (1 : Int)))).bind fun rq4 =>
  (self_zz13 (rq3.2.1, rq4.1, k_2, ())).bind fun rq5 =>
  some (rq5.1, (rq5.2.1, ())))
  (some (false, (rq3.2.1, ()))))
  (cond (decide (xq2 = (-1 : Int)))
  ((self_zz13 (c_0, i_1, IntKind.i64.wrap (k_2 + (1 : Int)), ())).bind fun rq6 =>
  cond rq6.1
  ((zz10 big rq6.2.1.2.1 (IntKind.i64.wrap (k_2 + (1 : Int)))).bind fun rq7 =>
  (self_zz13 (rq6.2.1, i_1, rq7.1, ())).bind fun rq8 =>
  some (rq8.1, (rq8.2.1, ())))
  (some (false, (rq6.2.1, ()))))
  (cond (decide ((0 : Int) ≤ xq1))
  (cond (decide ((0 : Int) ≤ xq2))
  (some (decide (xq1 = xq2), (c_0, ())))
  (cond (decide (xq1 = (-1 : Int)))
  ((self_zz13 (c_0, IntKind.i64.wrap (i_1 + (1 : Int)), k_2, ())).bind fun rq9 =>
  cond rq9.1
  (some (true, (rq9.2.1, ())))
  ((zz10 big rq9.2.1.1 (IntKind.i64.wrap (i_1 + (1 : Int)))).bind fun rq10 =>
  (self_zz13 (rq9.2.1, rq10.1, k_2, ())).bind fun rq11 =>
  cond rq11.1
  (some (true, (rq11.2.1, ())))
  (cond (decide (xq2 = (-2 : Int)))
  ((self_zz13 (rq11.2.1, i_1, IntKind.i64.wrap (k_2 + (1 : Int)), ())).bind fun rq12 =>
  cond rq12.1
  (some (true, (rq12.2.1, ())))
  ((zz10 big rq12.2.1.2.1 (IntKind.i64.wrap (k_2 + (1 : Int)))).bind fun rq13 =>
  (self_zz13 (rq12.2.1, i_1, rq13.1, ())).bind fun rq14 =>
  some (rq14.1, (rq14.2.1, ()))))
  (some (false, (rq11.2.1, ()))))))
  (cond (decide (xq2 = (-2 : Int)))
  ((self_zz13 (c_0, i_1, IntKind.i64.wrap (k_2 + (1 : Int)), ())).bind fun rq15 =>
  cond rq15.1
  (some (true, (rq15.2.1, ())))
  ((zz10 big rq15.2.1.2.1 (IntKind.i64.wrap (k_2 + (1 : Int)))).bind fun rq16 =>
  (self_zz13 (rq15.2.1, i_1, rq16.1, ())).bind fun rq17 =>
  some (rq17.1, (rq17.2.1, ()))))
  (some (false, (c_0, ()))))))
  (cond (decide (xq1 = (-1 : Int)))
  ((self_zz13 (c_0, IntKind.i64.wrap (i_1 + (1 : Int)), k_2, ())).bind fun rq18 =>
  cond rq18.1
  (some (true, (rq18.2.1, ())))
  ((zz10 big rq18.2.1.1 (IntKind.i64.wrap (i_1 + (1 : Int)))).bind fun rq19 =>
  (self_zz13 (rq18.2.1, rq19.1, k_2, ())).bind fun rq20 =>
  cond rq20.1
  (some (true, (rq20.2.1, ())))
  (cond (decide (xq2 = (-2 : Int)))
  ((self_zz13 (rq20.2.1, i_1, IntKind.i64.wrap (k_2 + (1 : Int)), ())).bind fun rq21 =>
  cond rq21.1
  (some (true, (rq21.2.1, ())))
  ((zz10 big rq21.2.1.2.1 (IntKind.i64.wrap (k_2 + (1 : Int)))).bind fun rq22 =>
  (self_zz13 (rq21.2.1, i_1, rq22.1, ())).bind fun rq23 =>
  some (rq23.1, (rq23.2.1, ()))))
  (some (false, (rq20.2.1, ()))))))
  (cond (decide (xq2 = (-2 : Int)))
  ((self_zz13 (c_0, i_1, IntKind.i64.wrap (k_2 + (1 : Int)), ())).bind fun rq24 =>
  cond rq24.1
  (some (true, (rq24.2.1, ())))
  ((zz10 big rq24.2.1.2.1 (IntKind.i64.wrap (k_2 + (1 : Int)))).bind fun rq25 =>
  (self_zz13 (rq24.2.1, i_1, rq25.1, ())).bind fun rq26 =>
  some (rq26.1, (rq26.2.1, ()))))
  (some (false, (c_0, ())))))))
def zz14 (self_zz13 : ((Y4 × (Y4 × ((List ((Int × (Int × Unit)) × Bool)) × Unit))) × (Int × (Int × Unit))) → Option (Bool × ((Y4 × (Y4 × ((List ((Int × (Int × Unit)) × Bool)) × Unit))) × Unit))) (self_zz14 : ((Y4 × (Y4 × ((List ((Int × (Int × Unit)) × Bool)) × Unit))) × (Int × (Int × Unit))) → Option (Bool × ((Y4 × (Y4 × ((List ((Int × (Int × Unit)) × Bool)) × Unit))) × Unit))) (c_0 : (Y4 × (Y4 × ((List ((Int × (Int × Unit)) × Bool)) × Unit)))) (i_1 : Int) (k_2 : Int) : Option (Bool × ((Y4 × (Y4 × ((List ((Int × (Int × Unit)) × Bool)) × Unit))) × Unit)) := zz14_s self_zz13 self_zz14 c_0 i_1 k_2
def A_zz14 (self_zz13 : ((Y4 × (Y4 × ((List ((Int × (Int × Unit)) × Bool)) × Unit))) × (Int × (Int × Unit))) → Option (Bool × ((Y4 × (Y4 × ((List ((Int × (Int × Unit)) × Bool)) × Unit))) × Unit))) (self_zz14 : ((Y4 × (Y4 × ((List ((Int × (Int × Unit)) × Bool)) × Unit))) × (Int × (Int × Unit))) → Option (Bool × ((Y4 × (Y4 × ((List ((Int × (Int × Unit)) × Bool)) × Unit))) × Unit))) : Cfg := mkCfg tab [(76, T_zz13 self_zz13), (79, S_zz10)] []
theorem run_zz14 (self_zz13 : ((Y4 × (Y4 × ((List ((Int × (Int × Unit)) × Bool)) × Unit))) × (Int × (Int × Unit))) → Option (Bool × ((Y4 × (Y4 × ((List ((Int × (Int × Unit)) × Bool)) × Unit))) × Unit))) (self_zz14 : ((Y4 × (Y4 × ((List ((Int × (Int × Unit)) × Bool)) × Unit))) × (Int × (Int × Unit))) → Option (Bool × ((Y4 × (Y4 × ((List ((Int × (Int × Unit)) × Bool)) × Unit))) × Unit))) (N : Nat) (x : ((T_zz14 self_zz14)).a.den) : runF (A_zz14 self_zz13 self_zz14) N Try.f105 (T_zz14 self_zz14) x = zz14 self_zz13 self_zz14 x.1 x.2.1 x.2.2.1 := by kernel_rfl
theorem fn_zz14 : FnOk Try.prog 105 := ⟨_, Try.func105, by kernel_rfl, by kernel_rfl⟩

/-! zz26 -/
def RR_impl_comparer_below_impl_comparer_decide : Nat → (((Y4 × (Y4 × ((List ((Int × (Int × Unit)) × Bool)) × Unit))) × (Int × (Int × Unit))) → Option (Bool × ((Y4 × (Y4 × ((List ((Int × (Int × Unit)) × Bool)) × Unit))) × Unit))) × (((Y4 × (Y4 × ((List ((Int × (Int × Unit)) × Bool)) × Unit))) × (Int × (Int × Unit))) → Option (Bool × ((Y4 × (Y4 × ((List ((Int × (Int × Unit)) × Bool)) × Unit))) × Unit)))
  | 0 => (fun _ => none, fun _ => none)
  | d + 1 => (fun x => zz13 (RR_impl_comparer_below_impl_comparer_decide d).1 (RR_impl_comparer_below_impl_comparer_decide d).2 x.1 x.2.1 x.2.2.1, fun x => zz14 (RR_impl_comparer_below_impl_comparer_decide d).1 (RR_impl_comparer_below_impl_comparer_decide d).2 x.1 x.2.1 x.2.2.1)
def R_zz13 (d : Nat) : ((Y4 × (Y4 × ((List ((Int × (Int × Unit)) × Bool)) × Unit))) × (Int × (Int × Unit))) → Option (Bool × ((Y4 × (Y4 × ((List ((Int × (Int × Unit)) × Bool)) × Unit))) × Unit)) := (RR_impl_comparer_below_impl_comparer_decide d).1
def S_zz13 : Sig := T_zz13 (R_zz13 big)
def R_zz14 (d : Nat) : ((Y4 × (Y4 × ((List ((Int × (Int × Unit)) × Bool)) × Unit))) × (Int × (Int × Unit))) → Option (Bool × ((Y4 × (Y4 × ((List ((Int × (Int × Unit)) × Bool)) × Unit))) × Unit)) := (RR_impl_comparer_below_impl_comparer_decide d).2
def S_zz14 : Sig := T_zz14 (R_zz14 big)
theorem goodRR_impl_comparer_below_impl_comparer_decide : ∀ d, Gx.Good Try.prog 76 (T_zz13 (R_zz13 d)) ∧ Gx.Good Try.prog 105 (T_zz14 (R_zz14 d))
  | 0 => ⟨(fun x r h => by cases (show (none : Option _) = some r from h)), (fun x r h => by cases (show (none : Option _) = some r from h))⟩
  | d + 1 => ⟨(good_of_run Try.func76 (of_decide_eq_true (by kernel_rfl)) fun x r h => ⟨A_zz13 (R_zz13 d) (R_zz14 d), big, mkCfg_ok tabOk, mkCfg_sigs (show SigsOk Try.prog [(105, T_zz14 (R_zz14 d))] from ⟨⟨fn_zz14, (goodRR_impl_comparer_below_impl_comparer_decide d).2⟩, trivial⟩), (run_zz13 (R_zz13 d) (R_zz14 d) big x).trans h⟩), (good_of_run Try.func105 (of_decide_eq_true (by kernel_rfl)) fun x r h => ⟨A_zz14 (R_zz13 d) (R_zz14 d), big, mkCfg_ok tabOk, mkCfg_sigs (show SigsOk Try.prog [(76, T_zz13 (R_zz13 d)), (79, S_zz10)] from ⟨⟨fn_zz13, (goodRR_impl_comparer_below_impl_comparer_decide d).1⟩, ⟨fn_zz10, good_zz10⟩, trivial⟩), (run_zz14 (R_zz13 d) (R_zz14 d) big x).trans h⟩)⟩
theorem good_zz13 : Gx.Good Try.prog 76 S_zz13 := (goodRR_impl_comparer_below_impl_comparer_decide big).1
theorem good_zz14 : Gx.Good Try.prog 105 S_zz14 := (goodRR_impl_comparer_below_impl_comparer_decide big).2

/-! zz16 -/
def zz16_s (s_0 : Y4) (t_1 : Y4) : Option (Bool × Unit) :=
  (R_zz13 big ((s_0, (t_1, ([], ()))), (0 : Int), (0 : Int), ())).bind fun rq1 =>
  some (rq1.1, (()))
def zz16 (s_0 : Y4) (t_1 : Y4) : Option (Bool × Unit) := zz16_s s_0 t_1
def S_zz16 : Sig := { a := (.pair (.sl I) (.pair (.sl I) .unit)), md := [0, 0], mf := [], m := .unit, r := .bool, rf := .i, f := fun x => zz16 x.1 x.2.1 }
def A_zz16 : Cfg := mkCfg tab [(76, S_zz13)] []
theorem run_zz16 (N : Nat) (x : (S_zz16).a.den) : runF (A_zz16) N Try.f37 S_zz16 x = zz16 x.1 x.2.1 := by kernel_rfl
theorem fn_zz16 : FnOk Try.prog 37 := ⟨_, Try.func37, by kernel_rfl, by kernel_rfl⟩
theorem good_zz16 : Gx.Good Try.prog 37 S_zz16 := good_of_run Try.func37 (of_decide_eq_true (by kernel_rfl)) fun x r h => ⟨A_zz16, big, mkCfg_ok tabOk, mkCfg_sigs (show SigsOk Try.prog [(76, S_zz13)] from ⟨⟨fn_zz13, good_zz13⟩, trivial⟩), (run_zz16 big x).trans h⟩

/-! zz17 -/
def zz17_s (s_0 : Y4) (t_1 : Y4) : Option ((Bool × (Bool × Unit)) × Unit) :=
  (zz12 s_0 t_1).bind fun rq1 =>
  cond (!rq1.1)
  (some ((false, false, ()), (())))
  ((zz16 s_0 t_1).bind fun rq2 =>
  some ((rq2.1, true, ()), (())))
def zz17 (s_0 : Y4) (t_1 : Y4) : Option ((Bool × (Bool × Unit)) × Unit) := zz17_s s_0 t_1
def S_zz17 : Sig := { a := (.pair (.sl I) (.pair (.sl I) .unit)), md := [0, 0], mf := [], m := .unit, r := (.tup (.pair .bool (.pair .bool .unit))), rf := .i, f := fun x => zz17 x.1 x.2.1 }
def A_zz17 : Cfg := mkCfg tab [(36, S_zz12), (37, S_zz16)] []
theorem run_zz17 (N : Nat) (x : (S_zz17).a.den) : runF (A_zz17) N Try.f10 S_zz17 x = zz17 x.1 x.2.1 := by kernel_rfl
theorem fn_zz17 : FnOk Try.prog 10 := ⟨_, Try.func10, by kernel_rfl, by kernel_rfl⟩
theorem good_zz17 : Gx.Good Try.prog 10 S_zz17 := good_of_run Try.func10 (of_decide_eq_true (by kernel_rfl)) fun x r h => ⟨A_zz17, big, mkCfg_ok tabOk, mkCfg_sigs (show SigsOk Try.prog [(36, S_zz12), (37, S_zz16)] from ⟨⟨fn_zz12, good_zz12⟩, ⟨fn_zz16, good_zz16⟩, trivial⟩), (run_zz17 big x).trans h⟩

/-! zz18 -/
def zz18_b4 (rec : Y4 → Y4 → Int → Option (Bool × Unit)) (k : Option (Bool × Unit)) (a0 : Y4) (b1 : Y4) (i5 : Int) : Option (Bool × Unit) :=
  cond (decide (i5 < (a0.length : Int)))
  ((atI a0 i5).bind fun xq1 =>
  (atI b1 i5).bind fun xq2 =>
  cond (decide (xq1 ≠ xq2))
  (some (false, (())))
  (rec a0 b1 (IntKind.i64.wrap (i5 + (1 : Int)))))
  (k)
def zz18_a4 : Option (Bool × Unit) :=
  some (true, (()))
def zz18_s (L4 : Y4 → Y4 → Int → Option (Bool × Unit)) (a_0 : Y4) (b_1 : Y4) : Option (Bool × Unit) :=
  cond (decide ((a_0.length : Int) ≠ (b_1.length : Int)))
  (some (false, (())))
  (L4 a_0 b_1 (0 : Int))
def zz18_l4 (N : Nat) (k : Option (Bool × Unit)) : Nat → Y4 → Y4 → Int → Option (Bool × Unit)
  | 0, _, _, _ => none
  | m + 1, a0, b1, i5 => zz18_b4 (zz18_l4 N k m) k a0 b1 i5
def zz18_F4 (N : Nat) (a0 : Y4) (b1 : Y4) (i5 : Int) : Option (Bool × Unit) := zz18_l4 N (zz18_a4) N a0 b1 i5
def zz18 (N : Nat) (a_0 : Y4) (b_1 : Y4) : Option (Bool × Unit) := zz18_s (zz18_F4 N) a_0 b_1
def S_zz18 : Sig := { a := (.pair (.sl I) (.pair (.sl I) .unit)), md := [0, 0], mf := [], m := .unit, r := .bool, rf := .i, f := fun x => zz18 big x.1 x.2.1 }
def A_zz18 : Cfg := mkCfg tab [] [(8, [.as (.sl I) .i, .as (.sl I) .i, .drop, .drop, .drop, .as I .i]), (17, [])]
noncomputable def zz18_R4 (N n : Nat) (K : Ex → St → Option (Bool × Unit)) (a0 : Y4) (b1 : Y4) (i5 : Int) : Option (Bool × Unit) := iter ((A_zz18).shape 8) (run (A_zz18) N (codeAt Try.f11 [1, 1, 0, 1, 0, 0])) n ([.val (.sl I) .i a0, .val (.sl I) .i b1, .u, .u, .u, .val I .i i5] ++ List.replicate 20 .u) K
noncomputable abbrev zz18_z : Ex → St → Option (Bool × Unit) := finish (A_zz18) S_zz18 Try.f11.results.toList
noncomputable abbrev zz18_X4 (kX : St → Option (Bool × Unit)) : Option (Bool × Unit) := kX ([] ++ List.replicate 26 .u)
noncomputable abbrev zz18_E4 (kX : St → Option (Bool × Unit)) (kO : Nat → St → Option (Bool × Unit)) : Ex → St → Option (Bool × Unit) := exK zz18_z 0 ((A_zz18).shape 17) kX kO
theorem zz18_step4 (N : Nat) (m : Nat) (kX : St → Option (Bool × Unit)) (kO : Nat → St → Option (Bool × Unit)) (a0 : Y4) (b1 : Y4) (i5 : Int) : zz18_R4 N (m + 1) (zz18_E4 kX kO) a0 b1 i5 = zz18_b4 (zz18_R4 N m (zz18_E4 kX kO)) (zz18_X4 kX) a0 b1 i5 := by kernel_rfl
theorem zz18_iter4 (N : Nat) (kX : St → Option (Bool × Unit)) (kO : Nat → St → Option (Bool × Unit)) : ∀ (n : Nat) (a0 : Y4) (b1 : Y4) (i5 : Int), zz18_R4 N n (zz18_E4 kX kO) a0 b1 i5 = zz18_l4 N (zz18_X4 kX) n a0 b1 i5
  | 0, _, _, _ => rfl
  | m + 1, a0, b1, i5 => by
    have hrec : zz18_R4 N m (zz18_E4 kX kO) = (zz18_l4 N (zz18_X4 kX) m) := (funext fun a0 => (funext fun b1 => (funext fun i5 => zz18_iter4 N kX kO m a0 b1 i5)))
    refine (zz18_step4 N m kX kO a0 b1 i5).trans ?_
    rw [hrec]
    rfl
noncomputable abbrev zz18_K4 (N : Nat) : Ex → St → Option (Bool × Unit) := (blockK 0 (seqK ((A_zz18).shape 17) (run (A_zz18) N (codeAt Try.f11 [1, 1, 1])) zz18_z))
noncomputable abbrev zz18_k4 (N : Nat) : St → Option (Bool × Unit) := fun st' => run (A_zz18) N (codeAt Try.f11 [1, 1, 1]) st' zz18_z
theorem zz18_after4 (N : Nat) : zz18_X4 (zz18_k4 N) = zz18_a4 := by kernel_rfl
theorem zz18_in4 (N : Nat) (a0 : Y4) (b1 : Y4) (i5 : Int) : zz18_R4 N N (zz18_K4 N) a0 b1 i5 = zz18_F4 N a0 b1 i5 :=
  have h : zz18_X4 (zz18_k4 N) = (zz18_a4) := zz18_after4 N
  ((iter_ex (fun st => by kernel_rfl) (fun st => by kernel_rfl)).trans (zz18_iter4 N (zz18_k4 N) (fun j st => (zz18_K4 N) (.exit j) st) N a0 b1 i5)).trans (congrArg (fun k => zz18_l4 N k N a0 b1 i5) h)
theorem run0_zz18 (N : Nat) (x : (S_zz18).a.den) : runF (A_zz18) N Try.f11 S_zz18 x = (zz18_s (zz18_R4 N N (zz18_K4 N)) x.1 x.2.1) := by kernel_rfl
theorem run_zz18 (N : Nat) (x : (S_zz18).a.den) : runF (A_zz18) N Try.f11 S_zz18 x = zz18 N x.1 x.2.1 := by
  refine (run0_zz18 N x).trans ?_
  rw [(funext fun a0 => (funext fun b1 => (funext fun i5 => zz18_in4 N a0 b1 i5)))]
  rfl
theorem fn_zz18 : FnOk Try.prog 11 := ⟨_, Try.func11, by kernel_rfl, by kernel_rfl⟩
theorem good_zz18 : Gx.Good Try.prog 11 S_zz18 := good_of_run Try.func11 (of_decide_eq_true (by kernel_rfl)) fun x r h => ⟨A_zz18, big, mkCfg_ok tabOk, mkCfg_sigs (show SigsOk Try.prog [] from trivial), (run_zz18 big x).trans h⟩

/-! laws_FnExactWordBelow -/
def laws_FnExactWordBelow_s (aS_0 : Y4) (aT_1 : Y4) : Option (Bool × Unit) :=
  cond (decide ((1048576 : Int) < (aS_0.length : Int)))
  (some (true, (())))
  (cond (decide ((1048576 : Int) < (aT_1.length : Int)))
  (some (true, (())))
  ((zz0 big aS_0).bind fun rq1 =>
  (zz0 big aT_1).bind fun rq2 =>
  (zz9 rq1.1 rq2.1).bind fun rq3 =>
  (zz0 big aS_0).bind fun rq4 =>
  (zz0 big aT_1).bind fun rq5 =>
  (zz17 rq4.1 rq5.1).bind fun rq6 =>
  cond (rq6.1.1 != rq3.1.1)
  (some (false, (())))
  (cond (rq6.1.2.1 != rq3.1.2.1)
  (some (false, (())))
  ((zz0 big aS_0).bind fun rq7 =>
  (zz18 big rq4.1 rq7.1).bind fun rq8 =>
  cond (!rq8.1)
  (some (false, (())))
  ((zz0 big aT_1).bind fun rq9 =>
  (zz18 big rq5.1 rq9.1).bind fun rq10 =>
  cond (!rq10.1)
  (some (false, (())))
  (some (true, (()))))))))
def laws_FnExactWordBelow (aS_0 : Y4) (aT_1 : Y4) : Option (Bool × Unit) := laws_FnExactWordBelow_s aS_0 aT_1
def S_laws_FnExactWordBelow : Sig := { a := (.pair (.sl I) (.pair (.sl I) .unit)), md := [0, 0], mf := [], m := .unit, r := .bool, rf := .i, f := fun x => laws_FnExactWordBelow x.1 x.2.1 }
def A_laws_FnExactWordBelow : Cfg := mkCfg tab [(9, S_zz0), (8, S_zz9), (10, S_zz17), (11, S_zz18)] []
theorem run_laws_FnExactWordBelow (N : Nat) (x : (S_laws_FnExactWordBelow).a.den) : runF (A_laws_FnExactWordBelow) N Try.f3 S_laws_FnExactWordBelow x = laws_FnExactWordBelow x.1 x.2.1 := by kernel_rfl
theorem fn_laws_FnExactWordBelow : FnOk Try.prog 3 := ⟨_, Try.func3, by kernel_rfl, by kernel_rfl⟩
theorem good_laws_FnExactWordBelow : Gx.Good Try.prog 3 S_laws_FnExactWordBelow := good_of_run Try.func3 (of_decide_eq_true (by kernel_rfl)) fun x r h => ⟨A_laws_FnExactWordBelow, big, mkCfg_ok tabOk, mkCfg_sigs (show SigsOk Try.prog [(9, S_zz0), (8, S_zz9), (10, S_zz17), (11, S_zz18)] from ⟨⟨fn_zz0, good_zz0⟩, ⟨fn_zz9, good_zz9⟩, ⟨fn_zz17, good_zz17⟩, ⟨fn_zz18, good_zz18⟩, trivial⟩), (run_laws_FnExactWordBelow big x).trans h⟩

/-! zz19 -/
def zz19_s (s_0 : Y4) (t_1 : Y4) : Option ((Bool × (Bool × Unit)) × Unit) :=
  (zz4 s_0 t_1).bind fun rq1 =>
  cond (!rq1.1)
  (some ((false, false, ()), (())))
  ((zz8 s_0 t_1).bind fun rq2 =>
  cond rq2.1
  ((zz8 t_1 s_0).bind fun rq3 =>
  some ((rq3.1, true, ()), (())))
  (some ((false, true, ()), (()))))
def zz19 (s_0 : Y4) (t_1 : Y4) : Option ((Bool × (Bool × Unit)) × Unit) := zz19_s s_0 t_1
def S_zz19 : Sig := { a := (.pair (.sl I) (.pair (.sl I) .unit)), md := [0, 0], mf := [], m := .unit, r := (.tup (.pair .bool (.pair .bool .unit))), rf := .i, f := fun x => zz19 x.1 x.2.1 }
def A_zz19 : Cfg := mkCfg tab [(34, S_zz4), (35, S_zz8)] []
theorem run_zz19 (N : Nat) (x : (S_zz19).a.den) : runF (A_zz19) N Try.f12 S_zz19 x = zz19 x.1 x.2.1 := by kernel_rfl
theorem fn_zz19 : FnOk Try.prog 12 := ⟨_, Try.func12, by kernel_rfl, by kernel_rfl⟩
theorem good_zz19 : Gx.Good Try.prog 12 S_zz19 := good_of_run Try.func12 (of_decide_eq_true (by kernel_rfl)) fun x r h => ⟨A_zz19, big, mkCfg_ok tabOk, mkCfg_sigs (show SigsOk Try.prog [(34, S_zz4), (35, S_zz8)] from ⟨⟨fn_zz4, good_zz4⟩, ⟨fn_zz8, good_zz8⟩, trivial⟩), (run_zz19 big x).trans h⟩

/-! zz20 -/
def zz20_s (s_0 : Y4) (t_1 : Y4) : Option (Bool × Unit) :=
  (zz16 s_0 t_1).bind fun rq1 =>
  cond rq1.1
  ((zz16 t_1 s_0).bind fun rq2 =>
  some (rq2.1, (())))
  (some (false, (())))
def zz20 (s_0 : Y4) (t_1 : Y4) : Option (Bool × Unit) := zz20_s s_0 t_1
def S_zz20 : Sig := { a := (.pair (.sl I) (.pair (.sl I) .unit)), md := [0, 0], mf := [], m := .unit, r := .bool, rf := .i, f := fun x => zz20 x.1 x.2.1 }
def A_zz20 : Cfg := mkCfg tab [(37, S_zz16)] []
theorem run_zz20 (N : Nat) (x : (S_zz20).a.den) : runF (A_zz20) N Try.f38 S_zz20 x = zz20 x.1 x.2.1 := by kernel_rfl
theorem fn_zz20 : FnOk Try.prog 38 := ⟨_, Try.func38, by kernel_rfl, by kernel_rfl⟩
theorem good_zz20 : Gx.Good Try.prog 38 S_zz20 := good_of_run Try.func38 (of_decide_eq_true (by kernel_rfl)) fun x r h => ⟨A_zz20, big, mkCfg_ok tabOk, mkCfg_sigs (show SigsOk Try.prog [(37, S_zz16)] from ⟨⟨fn_zz16, good_zz16⟩, trivial⟩), (run_zz20 big x).trans h⟩

/-! zz21 -/
def zz21_s (s_0 : Y4) (t_1 : Y4) : Option ((Bool × (Bool × Unit)) × Unit) :=
  (zz12 s_0 t_1).bind fun rq1 =>
  cond (!rq1.1)
  (some ((false, false, ()), (())))
  ((zz20 s_0 t_1).bind fun rq2 =>
  some ((rq2.1, true, ()), (())))
def zz21 (s_0 : Y4) (t_1 : Y4) : Option ((Bool × (Bool × Unit)) × Unit) := zz21_s s_0 t_1
def S_zz21 : Sig := { a := (.pair (.sl I) (.pair (.sl I) .unit)), md := [0, 0], mf := [], m := .unit, r := (.tup (.pair .bool (.pair .bool .unit))), rf := .i, f := fun x => zz21 x.1 x.2.1 }
def A_zz21 : Cfg := mkCfg tab [(36, S_zz12), (38, S_zz20)] []
theorem run_zz21 (N : Nat) (x : (S_zz21).a.den) : runF (A_zz21) N Try.f13 S_zz21 x = zz21 x.1 x.2.1 := by kernel_rfl
theorem fn_zz21 : FnOk Try.prog 13 := ⟨_, Try.func13, by kernel_rfl, by kernel_rfl⟩
theorem good_zz21 : Gx.Good Try.prog 13 S_zz21 := good_of_run Try.func13 (of_decide_eq_true (by kernel_rfl)) fun x r h => ⟨A_zz21, big, mkCfg_ok tabOk, mkCfg_sigs (show SigsOk Try.prog [(36, S_zz12), (38, S_zz20)] from ⟨⟨fn_zz12, good_zz12⟩, ⟨fn_zz20, good_zz20⟩, trivial⟩), (run_zz21 big x).trans h⟩

/-! laws_FnExactWordsEqual -/
def laws_FnExactWordsEqual_s (aS_0 : Y4) (aT_1 : Y4) : Option (Bool × Unit) :=
  cond (decide ((1048576 : Int) < (aS_0.length : Int)))
  (some (true, (())))
  (cond (decide ((1048576 : Int) < (aT_1.length : Int)))
  (some (true, (())))
  ((zz0 big aS_0).bind fun rq1 =>
  (zz0 big aT_1).bind fun rq2 =>
  (zz19 rq1.1 rq2.1).bind fun rq3 =>
  (zz0 big aS_0).bind fun rq4 =>
  (zz0 big aT_1).bind fun rq5 =>
  (zz21 rq4.1 rq5.1).bind fun rq6 =>
  cond (rq6.1.1 != rq3.1.1)
  (some (false, (())))
  (cond (rq6.1.2.1 != rq3.1.2.1)
  (some (false, (())))
  ((zz0 big aS_0).bind fun rq7 =>
  (zz18 big rq4.1 rq7.1).bind fun rq8 =>
  cond (!rq8.1)
  (some (false, (())))
  ((zz0 big aT_1).bind fun rq9 =>
  (zz18 big rq5.1 rq9.1).bind fun rq10 =>
  cond (!rq10.1)
  (some (false, (())))
  (some (true, (()))))))))
def laws_FnExactWordsEqual (aS_0 : Y4) (aT_1 : Y4) : Option (Bool × Unit) := laws_FnExactWordsEqual_s aS_0 aT_1
def S_laws_FnExactWordsEqual : Sig := { a := (.pair (.sl I) (.pair (.sl I) .unit)), md := [0, 0], mf := [], m := .unit, r := .bool, rf := .i, f := fun x => laws_FnExactWordsEqual x.1 x.2.1 }
def A_laws_FnExactWordsEqual : Cfg := mkCfg tab [(9, S_zz0), (12, S_zz19), (13, S_zz21), (11, S_zz18)] []
theorem run_laws_FnExactWordsEqual (N : Nat) (x : (S_laws_FnExactWordsEqual).a.den) : runF (A_laws_FnExactWordsEqual) N Try.f4 S_laws_FnExactWordsEqual x = laws_FnExactWordsEqual x.1 x.2.1 := by kernel_rfl
theorem fn_laws_FnExactWordsEqual : FnOk Try.prog 4 := ⟨_, Try.func4, by kernel_rfl, by kernel_rfl⟩
theorem good_laws_FnExactWordsEqual : Gx.Good Try.prog 4 S_laws_FnExactWordsEqual := good_of_run Try.func4 (of_decide_eq_true (by kernel_rfl)) fun x r h => ⟨A_laws_FnExactWordsEqual, big, mkCfg_ok tabOk, mkCfg_sigs (show SigsOk Try.prog [(9, S_zz0), (12, S_zz19), (13, S_zz21), (11, S_zz18)] from ⟨⟨fn_zz0, good_zz0⟩, ⟨fn_zz19, good_zz19⟩, ⟨fn_zz21, good_zz21⟩, ⟨fn_zz18, good_zz18⟩, trivial⟩), (run_laws_FnExactWordsEqual big x).trans h⟩

/-! types of zz22 -/
def T_zz22 (self : ((List UInt8) × (Int × Unit)) → Option ((Y4 × (Int × Unit)) × Unit)) : Sig := { a := (.pair .str (.pair I .unit)), md := [0, 0], mf := [], m := .unit, r := (.tup (.pair (.sl I) (.pair I .unit))), rf := (.p (.o .i) .i), f := self }

/-! zz22 -/
def zz22_s (self_zz22 : ((List UInt8) × (Int × Unit)) → Option ((Y4 × (Int × Unit)) × Unit)) (s_0 : (List UInt8)) (at_1 : Int) : Option ((Y4 × (Int × Unit)) × Unit) :=
  cond (decide ((s_0.length : Int) ≤ at_1))
  (some (([], (-1 : Int), ()), (())))
  ((atI s_0 at_1).bind fun xq1 =>
  (zz1 (IntKind.i64.wrap (xq1.toNat : Int)) (97 : Int) (101 : Int)).bind fun rq2 =>
  cond rq2.1
  ((atI s_0 at_1).bind fun xq3 =>
  some (([IntKind.i64.wrap (IntKind.u8.wrap ((xq3.toNat : Int) - (97 : Int)))], IntKind.i64.wrap (at_1 + (1 : Int)), ()), (())))
  ((atI s_0 at_1).bind fun xq4 =>
  cond (decide ((xq4.toNat : Int) ≠ (40 : Int)))
  (some (([], (-1 : Int), ()), (())))
  ((self_zz22 (s_0, IntKind.i64.wrap (at_1 + (1 : Int)), ())).bind fun rq5 =>
  cond (decide (((((), rq5.1.2).2).1) < (0 : Int)))
  (some (([], (-1 : Int), ()), (())))
  (cond (decide ((s_0.length : Int) ≤ ((((), rq5.1.2).2).1)))
  (some (([], (-1 : Int), ()), (())))
  ((atI s_0 ((((), rq5.1.2).2).1)).bind fun xq6 =>
  cond (decide ((xq6.toNat : Int) ≠ (38 : Int)))
  ((atI s_0 ((((), rq5.1.2).2).1)).bind fun xq7 =>
  cond (decide ((xq7.toNat : Int) ≠ (124 : Int)))
  (some (([], (-1 : Int), ()), (())))
  ((atI s_0 ((((), rq5.1.2).2).1)).bind fun xq8 =>
  cond (decide ((xq8.toNat : Int) = (124 : Int)))
  ((self_zz22 (s_0, IntKind.i64.wrap (((((), rq5.1.2).2).1) + (1 : Int)), ())).bind fun rq9 =>
  cond (decide (((((), rq9.1.2).2).1) < (0 : Int)))
  (some (([], (-1 : Int), ()), (())))
  (cond (decide ((s_0.length : Int) ≤ ((((), rq9.1.2).2).1)))
  (some (([], (-1 : Int), ()), (())))
  ((atI s_0 ((((), rq9.1.2).2).1)).bind fun xq10 =>
  cond (decide ((xq10.toNat : Int) ≠ (41 : Int)))
  (some (([], (-1 : Int), ()), (())))
  ((appI [(-2 : Int)] rq5.1.1).bind fun xq11 =>
  (appI xq11 rq9.1.1).bind fun xq12 =>
  some ((xq12, IntKind.i64.wrap (((((), rq9.1.2).2).1) + (1 : Int)), ()), (()))))))
  ((self_zz22 (s_0, IntKind.i64.wrap (((((), rq5.1.2).2).1) + (1 : Int)), ())).bind fun rq13 =>
  cond (decide (((((), rq13.1.2).2).1) < (0 : Int)))
  (some (([], (-1 : Int), ()), (())))
  (cond (decide ((s_0.length : Int) ≤ ((((), rq13.1.2).2).1)))
  (some (([], (-1 : Int), ()), (())))
  ((atI s_0 ((((), rq13.1.2).2).1)).bind fun xq14 =>
  cond (decide ((xq14.toNat : Int) ≠ (41 : Int)))
  (some (([], (-1 : Int), ()), (())))
  ((appI [(-1 : Int)] rq5.1.1).bind fun xq15 =>
  (appI xq15 rq13.1.1).bind fun xq16 =>
  some ((xq16, IntKind.i64.wrap (((((), rq13.1.2).2).1) + (1 : Int)), ()), (()))))))))
  ((atI s_0 ((((), rq5.1.2).2).1)).bind fun xq17 =>
  cond (decide ((xq17.toNat : Int) = (124 : Int)))
  ((self_zz22 (s_0, IntKind.i64.wrap (((((), rq5.1.2).2).1) + (1 : Int)), ())).bind fun rq18 =>
  cond (decide (((((), rq18.1.2).2).1) < (0 : Int)))
  (some (([], (-1 : Int), ()), (())))
  (cond (decide ((s_0.length : Int) ≤ ((((), rq18.1.2).2).1)))
  (some (([], (-1 : Int), ()), (())))
  ((atI s_0 ((((), rq18.1.2).2).1)).bind fun xq19 =>
  cond (decide ((xq19.toNat : Int) ≠ (41 : Int)))
  (some (([], (-1 : Int), ()), (())))
  ((appI [(-2 : Int)] rq5.1.1).bind fun xq20 =>
  (appI xq20 rq18.1.1).bind fun xq21 =>
  some ((xq21, IntKind.i64.wrap (((((), rq18.1.2).2).1) + (1 : Int)), ()), (()))))))
  ((self_zz22 (s_0, IntKind.i64.wrap (((((), rq5.1.2).2).1) + (1 : Int)), ())).bind fun rq22 =>
  cond (decide (((((), rq22.1.2).2).1) < (0 : Int)))
  (some (([], (-1 : Int), ()), (())))
  (cond (decide ((s_0.length : Int) ≤ ((((), rq22.1.2).2).1)))
  (some (([], (-1 : Int), ()), (())))
  ((atI s_0 ((((), rq22.1.2).2).1)).bind fun xq23 =>
  cond (decide ((xq23.toNat : Int) ≠ (41 : Int)))
  (some (([], (-1 : Int), ()), (())))
  ((appI [(-1 : Int)] rq5.1.1).bind fun xq24 =>
  (appI xq24 rq22.1.1).bind fun xq25 =>
  some ((xq25, IntKind.i64.wrap (((((), rq22.1.2).2).1) + (1 : Int)), ()), (()))))))))))))
def zz22 (self_zz22 : ((List UInt8) × (Int × Unit)) → Option ((Y4 × (Int × Unit)) × Unit)) (s_0 : (List UInt8)) (at_1 : Int) : Option ((Y4 × (Int × Unit)) × Unit) := zz22_s self_zz22 s_0 at_1
def A_zz22 (self_zz22 : ((List UInt8) × (Int × Unit)) → Option ((Y4 × (Int × Unit)) × Unit)) : Cfg := mkCfg tab [(77, S_zz1), (39, T_zz22 self_zz22)] []
theorem run_zz22 (self_zz22 : ((List UInt8) × (Int × Unit)) → Option ((Y4 × (Int × Unit)) × Unit)) (N : Nat) (x : ((T_zz22 self_zz22)).a.den) : runF (A_zz22 self_zz22) N Try.f39 (T_zz22 self_zz22) x = zz22 self_zz22 x.1 x.2.1 := by kernel_rfl
theorem fn_zz22 : FnOk Try.prog 39 := ⟨_, Try.func39, by kernel_rfl, by kernel_rfl⟩

/-! zz26 -/
def R_zz22 : Nat → ((List UInt8) × (Int × Unit)) → Option ((Y4 × (Int × Unit)) × Unit)
  | 0, _ => none
  | d + 1, x => zz22 (R_zz22 d) x.1 x.2.1
def S_zz22 : Sig := T_zz22 (R_zz22 big)
theorem goodR_spec_l28Read : ∀ d, Gx.Good Try.prog 39 (T_zz22 (R_zz22 d))
  | 0 => fun x r h => by cases h
  | d + 1 => good_of_run Try.func39 (of_decide_eq_true (by kernel_rfl)) fun x r h => ⟨A_zz22 (R_zz22 d), big, mkCfg_ok tabOk, mkCfg_sigs (show SigsOk Try.prog [(77, S_zz1), (39, T_zz22 (R_zz22 d))] from ⟨⟨fn_zz1, good_zz1⟩, ⟨fn_zz22, goodR_spec_l28Read d⟩, trivial⟩), (run_zz22 (R_zz22 d) big x).trans h⟩
theorem good_zz22 : Gx.Good Try.prog 39 S_zz22 := goodR_spec_l28Read big

/-! zz24 -/
def zz24_s (s_0 : (List UInt8)) : Option ((Y4 × (Bool × Unit)) × Unit) :=
  cond (decide ((160 : Int) < (s_0.length : Int)))
  (some (([], false, ()), (())))
  ((R_zz22 big (s_0, (0 : Int), ())).bind fun rq1 =>
  cond (decide (((((), rq1.1.2).2).1) ≠ (s_0.length : Int)))
  (some (([], false, ()), (())))
  ((zz3 rq1.1.1).bind fun rq2 =>
  cond (!rq2.1)
  (some (([], false, ()), (())))
  (some ((rq1.1.1, true, ()), (())))))
def zz24 (s_0 : (List UInt8)) : Option ((Y4 × (Bool × Unit)) × Unit) := zz24_s s_0
def S_zz24 : Sig := { a := (.pair .str .unit), md := [0], mf := [], m := .unit, r := (.tup (.pair (.sl I) (.pair .bool .unit))), rf := (.p (.o .i) .i), f := fun x => zz24 x.1 }
def A_zz24 : Cfg := mkCfg tab [(39, S_zz22), (40, S_zz3)] []
theorem run_zz24 (N : Nat) (x : (S_zz24).a.den) : runF (A_zz24) N Try.f14 S_zz24 x = zz24 x.1 := by kernel_rfl
theorem fn_zz24 : FnOk Try.prog 14 := ⟨_, Try.func14, by kernel_rfl, by kernel_rfl⟩
theorem good_zz24 : Gx.Good Try.prog 14 S_zz24 := good_of_run Try.func14 (of_decide_eq_true (by kernel_rfl)) fun x r h => ⟨A_zz24, big, mkCfg_ok tabOk, mkCfg_sigs (show SigsOk Try.prog [(39, S_zz22), (40, S_zz3)] from ⟨⟨fn_zz22, good_zz22⟩, ⟨fn_zz3, good_zz3⟩, trivial⟩), (run_zz24 big x).trans h⟩

/-! types of zz25 -/
def T_zz25 (self : ((List UInt8) × (Int × Unit)) → Option ((Y4 × ((List UInt8) × (Bool × Unit))) × Unit)) : Sig := { a := (.pair .str (.pair I .unit)), md := [0, 0], mf := [], m := .unit, r := (.tup (.pair (.sl I) (.pair .str (.pair .bool .unit)))), rf := (.p (.o .i) .i), f := self }

/-! zz25 -/
def zz25_s (self_zz25 : ((List UInt8) × (Int × Unit)) → Option ((Y4 × ((List UInt8) × (Bool × Unit))) × Unit)) (s_0 : (List UInt8)) (deep_1 : Int) : Option ((Y4 × ((List UInt8) × (Bool × Unit))) × Unit) :=
  cond (decide (s_0 = []))
  (some (([], [], false, ()), (())))
  (cond (decide ((40 : Int) < deep_1))
  (some (([], [], false, ()), (())))
  ((atI s_0 (0 : Int)).bind fun xq1 =>
  cond (decide ((xq1.toNat : Int) ≠ (40 : Int)))
  ((atI s_0 (0 : Int)).bind fun xq2 =>
  (slI s_0 (1 : Int) s_0.length).bind fun xq3 =>
  (atI s_0 (0 : Int)).bind fun xq4 =>
  cond (decide ((97 : Int) ≤ (xq4.toNat : Int)))
  ((atI s_0 (0 : Int)).bind fun xq5 =>
  some (([IntKind.i64.wrap ((IntKind.i64.wrap (xq2.toNat : Int)) - (97 : Int))], xq3, decide ((xq5.toNat : Int) < (102 : Int)), ()), (())))
  (some (([IntKind.i64.wrap ((IntKind.i64.wrap (xq2.toNat : Int)) - (97 : Int))], xq3, false, ()), (()))))
  ((slI s_0 (1 : Int) s_0.length).bind fun xq6 =>
  (self_zz25 (xq6, IntKind.i64.wrap (deep_1 + (1 : Int)), ())).bind fun rq7 =>
  cond (!(((((), rq7.1.2).2).2).1))
  (some (([], [], false, ()), (())))
  (cond (decide (((((), rq7.1.2).2).1) = []))
  (some (([], [], false, ()), (())))
  ((atI ((((), rq7.1.2).2).1) (0 : Int)).bind fun xq8 =>
  (slI ((((), rq7.1.2).2).1) (1 : Int) ((((), rq7.1.2).2).1).length).bind fun xq9 =>
  (self_zz25 (xq9, IntKind.i64.wrap (deep_1 + (1 : Int)), ())).bind fun rq10 =>
  cond (!(((((), rq10.1.2).2).2).1))
  (some (([], [], false, ()), (())))
  (cond (decide ((Option.getD (mget (.int .u8) I (mput (.int .u8) I (mput (.int .u8) I [] (38 : Int) (-1 : Int)) (124 : Int) (-2 : Int)) (xq8.toNat : Int)) (0 : Int)) = (0 : Int)))
  (some (([], [], false, ()), (())))
  (cond (decide (((((), rq10.1.2).2).1) = []))
  (some (([], [], false, ()), (())))
  ((atI ((((), rq10.1.2).2).1) (0 : Int)).bind fun xq11 =>
  cond (decide ((xq11.toNat : Int) ≠ (41 : Int)))
  (some (([], [], false, ()), (())))
  ((appI [Option.getD (mget (.int .u8) I (mput (.int .u8) I (mput (.int .u8) I [] (38 : Int) (-1 : Int)) (124 : Int) (-2 : Int)) (xq8.toNat : Int)) (0 : Int)] rq7.1.1).bind fun xq12 =>
  (appI xq12 rq10.1.1).bind fun xq13 =>
  (slI ((((), rq10.1.2).2).1) (1 : Int) ((((), rq10.1.2).2).1).length).bind fun xq14 =>
  some ((xq13, xq14, true, ()), (())))))))))))
def zz25 (self_zz25 : ((List UInt8) × (Int × Unit)) → Option ((Y4 × ((List UInt8) × (Bool × Unit))) × Unit)) (s_0 : (List UInt8)) (deep_1 : Int) : Option ((Y4 × ((List UInt8) × (Bool × Unit))) × Unit) := zz25_s self_zz25 s_0 deep_1
def A_zz25 (self_zz25 : ((List UInt8) × (Int × Unit)) → Option ((Y4 × ((List UInt8) × (Bool × Unit))) × Unit)) : Cfg := mkCfg tab [(41, T_zz25 self_zz25)] [(25, [.drop, .drop, .drop, .drop, .drop, .drop, .drop, .as (.sl I) .i, .as .str .i, .drop, .as I .i, .as (.sl I) .i])]
theorem run_zz25 (self_zz25 : ((List UInt8) × (Int × Unit)) → Option ((Y4 × ((List UInt8) × (Bool × Unit))) × Unit)) (N : Nat) (x : ((T_zz25 self_zz25)).a.den) : runF (A_zz25 self_zz25) N Try.f41 (T_zz25 self_zz25) x = zz25 self_zz25 x.1 x.2.1 := by kernel_rfl
theorem fn_zz25 : FnOk Try.prog 41 := ⟨_, Try.func41, by kernel_rfl, by kernel_rfl⟩

/-! zz26 -/
def R_zz25 : Nat → ((List UInt8) × (Int × Unit)) → Option ((Y4 × ((List UInt8) × (Bool × Unit))) × Unit)
  | 0, _ => none
  | d + 1, x => zz25 (R_zz25 d) x.1 x.2.1
def S_zz25 : Sig := T_zz25 (R_zz25 big)
theorem goodR_impl_readWord : ∀ d, Gx.Good Try.prog 41 (T_zz25 (R_zz25 d))
  | 0 => fun x r h => by cases h
  | d + 1 => good_of_run Try.func41 (of_decide_eq_true (by kernel_rfl)) fun x r h => ⟨A_zz25 (R_zz25 d), big, mkCfg_ok tabOk, mkCfg_sigs (show SigsOk Try.prog [(41, T_zz25 (R_zz25 d))] from ⟨⟨fn_zz25, goodR_impl_readWord d⟩, trivial⟩), (run_zz25 (R_zz25 d) big x).trans h⟩
theorem good_zz25 : Gx.Good Try.prog 41 S_zz25 := goodR_impl_readWord big

/-! zz27 -/
def zz27_s (s_0 : (List UInt8)) : Option ((Y4 × (Bool × Unit)) × Unit) :=
  cond (decide ((160 : Int) < (s_0.length : Int)))
  (some (([], false, ()), (())))
  ((R_zz25 big (s_0, (0 : Int), ())).bind fun rq1 =>
  cond (!(((((), rq1.1.2).2).2).1))
  (some (([], false, ()), (())))
  (cond (decide (((((), rq1.1.2).2).1) ≠ []))
  (some (([], false, ()), (())))
  ((zz11 rq1.1.1).bind fun rq2 =>
  cond (!rq2.1)
  (some (([], false, ()), (())))
  (some ((rq1.1.1, true, ()), (()))))))
def zz27 (s_0 : (List UInt8)) : Option ((Y4 × (Bool × Unit)) × Unit) := zz27_s s_0
def S_zz27 : Sig := { a := (.pair .str .unit), md := [0], mf := [], m := .unit, r := (.tup (.pair (.sl I) (.pair .bool .unit))), rf := (.p (.o .i) .i), f := fun x => zz27 x.1 }
def A_zz27 : Cfg := mkCfg tab [(41, S_zz25), (42, S_zz11)] []
theorem run_zz27 (N : Nat) (x : (S_zz27).a.den) : runF (A_zz27) N Try.f15 S_zz27 x = zz27 x.1 := by kernel_rfl
theorem fn_zz27 : FnOk Try.prog 15 := ⟨_, Try.func15, by kernel_rfl, by kernel_rfl⟩
theorem good_zz27 : Gx.Good Try.prog 15 S_zz27 := good_of_run Try.func15 (of_decide_eq_true (by kernel_rfl)) fun x r h => ⟨A_zz27, big, mkCfg_ok tabOk, mkCfg_sigs (show SigsOk Try.prog [(41, S_zz25), (42, S_zz11)] from ⟨⟨fn_zz25, good_zz25⟩, ⟨fn_zz11, good_zz11⟩, trivial⟩), (run_zz27 big x).trans h⟩

/-! zz28 -/
def zz28_b2 (rec : Y4 → Int → Int → Option Y6) (k : Y4 → Int → Option Y6) (a0 : Y4) (k1 : Int) (i5 : Int) : Option Y6 :=
  cond (decide (i5 < (a0.length : Int)))
  ((atI a0 i5).bind fun _ =>
  (a0[i5.toNat]?).bind fun xq1 =>
  rec (a0.set i5.toNat k1) (IntKind.i64.wrap (k1 + (1 : Int))) (IntKind.i64.wrap (i5 + (1 : Int))))
  (k a0 k1)
def zz28_a2 (a0 : Y4) (k1 : Int) : Option Y6 :=
  some (k1, (a0, ()))
def zz28_s (L2 : Y4 → Int → Int → Option Y6) (a_0 : Y4) (k_1 : Int) : Option Y6 :=
  L2 a_0 k_1 (0 : Int)
def zz28_l2 (N : Nat) (k : Y4 → Int → Option Y6) : Nat → Y4 → Int → Int → Option Y6
  | 0, _, _, _ => none
  | m + 1, a0, k1, i5 => zz28_b2 (zz28_l2 N k m) k a0 k1 i5
def zz28_F2 (N : Nat) (a0 : Y4) (k1 : Int) (i5 : Int) : Option Y6 := zz28_l2 N (zz28_a2) N a0 k1 i5
def zz28 (N : Nat) (a_0 : Y4) (k_1 : Int) : Option Y6 := zz28_s (zz28_F2 N) a_0 k_1
def S_zz28 : Sig := { a := (.pair (.sl I) (.pair I .unit)), md := [1, 0], mf := [(.o .i)], m := (.pair (.sl I) .unit), r := I, rf := .i, f := fun x => zz28 big x.1 x.2.1 }
def A_zz28 : Cfg := mkCfg tab [] [(4, [.as (.sl I) (.o .i), .as I .i, .drop, .drop, .drop, .as I .i]), (13, [.as (.sl I) (.o .i), .as I .i])]
noncomputable def zz28_R2 (N n : Nat) (K : Ex → St → Option Y6) (a0 : Y4) (k1 : Int) (i5 : Int) : Option Y6 := iter ((A_zz28).shape 4) (run (A_zz28) N (codeAt Try.f16 [1, 0, 1, 0, 0])) n ([.val (.sl I) (.o .i) a0, .val I .i k1, .u, .u, .u, .val I .i i5] ++ List.replicate 13 .u) K
noncomputable abbrev zz28_z : Ex → St → Option Y6 := finish (A_zz28) S_zz28 Try.f16.results.toList
noncomputable abbrev zz28_X2 (kX : St → Option Y6) : Y4 → Int → Option Y6 := fun (a0 : Y4) (k1 : Int) => kX ([.val (.sl I) (.o .i) a0, .val I .i k1] ++ List.replicate 17 .u)
noncomputable abbrev zz28_E2 (kX : St → Option Y6) (kO : Nat → St → Option Y6) : Ex → St → Option Y6 := exK zz28_z 0 ((A_zz28).shape 13) kX kO
theorem zz28_step2 (N : Nat) (m : Nat) (kX : St → Option Y6) (kO : Nat → St → Option Y6) (a0 : Y4) (k1 : Int) (i5 : Int) : zz28_R2 N (m + 1) (zz28_E2 kX kO) a0 k1 i5 = zz28_b2 (zz28_R2 N m (zz28_E2 kX kO)) (zz28_X2 kX) a0 k1 i5 := by kernel_rfl
theorem zz28_iter2 (N : Nat) (kX : St → Option Y6) (kO : Nat → St → Option Y6) : ∀ (n : Nat) (a0 : Y4) (k1 : Int) (i5 : Int), zz28_R2 N n (zz28_E2 kX kO) a0 k1 i5 = zz28_l2 N (zz28_X2 kX) n a0 k1 i5
  | 0, _, _, _ => rfl
  | m + 1, a0, k1, i5 => by
    have hrec : zz28_R2 N m (zz28_E2 kX kO) = (zz28_l2 N (zz28_X2 kX) m) := (funext fun a0 => (funext fun k1 => (funext fun i5 => zz28_iter2 N kX kO m a0 k1 i5)))
    refine (zz28_step2 N m kX kO a0 k1 i5).trans ?_
    rw [hrec]
    rfl
noncomputable abbrev zz28_K2 (N : Nat) : Ex → St → Option Y6 := (blockK 0 (seqK ((A_zz28).shape 13) (run (A_zz28) N (codeAt Try.f16 [1, 1])) zz28_z))
noncomputable abbrev zz28_k2 (N : Nat) : St → Option Y6 := fun st' => run (A_zz28) N (codeAt Try.f16 [1, 1]) st' zz28_z
theorem zz28_after2 (N : Nat) (a0 : Y4) (k1 : Int) : zz28_X2 (zz28_k2 N) a0 k1 = zz28_a2 a0 k1 := by kernel_rfl
theorem zz28_in2 (N : Nat) (a0 : Y4) (k1 : Int) (i5 : Int) : zz28_R2 N N (zz28_K2 N) a0 k1 i5 = zz28_F2 N a0 k1 i5 :=
  have h : zz28_X2 (zz28_k2 N) = (zz28_a2) := (funext fun a0 => (funext fun k1 => zz28_after2 N a0 k1))
  ((iter_ex (fun st => by kernel_rfl) (fun st => by kernel_rfl)).trans (zz28_iter2 N (zz28_k2 N) (fun j st => (zz28_K2 N) (.exit j) st) N a0 k1 i5)).trans (congrArg (fun k => zz28_l2 N k N a0 k1 i5) h)
theorem run0_zz28 (N : Nat) (x : (S_zz28).a.den) : runF (A_zz28) N Try.f16 S_zz28 x = (zz28_s (zz28_R2 N N (zz28_K2 N)) x.1 x.2.1) := by kernel_rfl
theorem run_zz28 (N : Nat) (x : (S_zz28).a.den) : runF (A_zz28) N Try.f16 S_zz28 x = zz28 N x.1 x.2.1 := by
  refine (run0_zz28 N x).trans ?_
  rw [(funext fun a0 => (funext fun k1 => (funext fun i5 => zz28_in2 N a0 k1 i5)))]
  rfl
theorem fn_zz28 : FnOk Try.prog 16 := ⟨_, Try.func16, by kernel_rfl, by kernel_rfl⟩
theorem good_zz28 : Gx.Good Try.prog 16 S_zz28 := good_of_run Try.func16 (of_decide_eq_true (by kernel_rfl)) fun x r h => ⟨A_zz28, big, mkCfg_ok tabOk, mkCfg_sigs (show SigsOk Try.prog [] from trivial), (run_zz28 big x).trans h⟩

/-! zz29 -/
def zz29_b2 (rec : Y4 → Int → Int → Option (Int × Unit)) (k : Int → Option (Int × Unit)) (a0 : Y4) (k1 : Int) (i5 : Int) : Option (Int × Unit) :=
  cond (decide (i5 < (a0.length : Int)))
  ((atI a0 i5).bind fun xq1 =>
  cond (decide (xq1 ≠ k1))
  (some ((-1 : Int), (())))
  (rec a0 (IntKind.i64.wrap (k1 + (1 : Int))) (IntKind.i64.wrap (i5 + (1 : Int)))))
  (k k1)
def zz29_a2 (k1 : Int) : Option (Int × Unit) :=
  some (k1, (()))
def zz29_s (L2 : Y4 → Int → Int → Option (Int × Unit)) (a_0 : Y4) (k_1 : Int) : Option (Int × Unit) :=
  L2 a_0 k_1 (0 : Int)
def zz29_l2 (N : Nat) (k : Int → Option (Int × Unit)) : Nat → Y4 → Int → Int → Option (Int × Unit)
  | 0, _, _, _ => none
  | m + 1, a0, k1, i5 => zz29_b2 (zz29_l2 N k m) k a0 k1 i5
def zz29_F2 (N : Nat) (a0 : Y4) (k1 : Int) (i5 : Int) : Option (Int × Unit) := zz29_l2 N (zz29_a2) N a0 k1 i5
def zz29 (N : Nat) (a_0 : Y4) (k_1 : Int) : Option (Int × Unit) := zz29_s (zz29_F2 N) a_0 k_1
def S_zz29 : Sig := { a := (.pair (.sl I) (.pair I .unit)), md := [0, 0], mf := [], m := .unit, r := I, rf := .i, f := fun x => zz29 big x.1 x.2.1 }
def A_zz29 : Cfg := mkCfg tab [] [(4, [.as (.sl I) .i, .as I .i, .drop, .drop, .drop, .as I .i]), (15, [.drop, .as I .i])]
noncomputable def zz29_R2 (N n : Nat) (K : Ex → St → Option (Int × Unit)) (a0 : Y4) (k1 : Int) (i5 : Int) : Option (Int × Unit) := iter ((A_zz29).shape 4) (run (A_zz29) N (codeAt Try.f17 [1, 0, 1, 0, 0])) n ([.val (.sl I) .i a0, .val I .i k1, .u, .u, .u, .val I .i i5] ++ List.replicate 15 .u) K
noncomputable abbrev zz29_z : Ex → St → Option (Int × Unit) := finish (A_zz29) S_zz29 Try.f17.results.toList
noncomputable abbrev zz29_X2 (kX : St → Option (Int × Unit)) : Int → Option (Int × Unit) := fun (k1 : Int) => kX ([.u, .val I .i k1] ++ List.replicate 19 .u)
noncomputable abbrev zz29_E2 (kX : St → Option (Int × Unit)) (kO : Nat → St → Option (Int × Unit)) : Ex → St → Option (Int × Unit) := exK zz29_z 0 ((A_zz29).shape 15) kX kO
theorem zz29_step2 (N : Nat) (m : Nat) (kX : St → Option (Int × Unit)) (kO : Nat → St → Option (Int × Unit)) (a0 : Y4) (k1 : Int) (i5 : Int) : zz29_R2 N (m + 1) (zz29_E2 kX kO) a0 k1 i5 = zz29_b2 (zz29_R2 N m (zz29_E2 kX kO)) (zz29_X2 kX) a0 k1 i5 := by kernel_rfl
theorem zz29_iter2 (N : Nat) (kX : St → Option (Int × Unit)) (kO : Nat → St → Option (Int × Unit)) : ∀ (n : Nat) (a0 : Y4) (k1 : Int) (i5 : Int), zz29_R2 N n (zz29_E2 kX kO) a0 k1 i5 = zz29_l2 N (zz29_X2 kX) n a0 k1 i5
  | 0, _, _, _ => rfl
  | m + 1, a0, k1, i5 => by
    have hrec : zz29_R2 N m (zz29_E2 kX kO) = (zz29_l2 N (zz29_X2 kX) m) := (funext fun a0 => (funext fun k1 => (funext fun i5 => zz29_iter2 N kX kO m a0 k1 i5)))
    refine (zz29_step2 N m kX kO a0 k1 i5).trans ?_
    rw [hrec]
    rfl
noncomputable abbrev zz29_K2 (N : Nat) : Ex → St → Option (Int × Unit) := (blockK 0 (seqK ((A_zz29).shape 15) (run (A_zz29) N (codeAt Try.f17 [1, 1])) zz29_z))
noncomputable abbrev zz29_k2 (N : Nat) : St → Option (Int × Unit) := fun st' => run (A_zz29) N (codeAt Try.f17 [1, 1]) st' zz29_z
theorem zz29_after2 (N : Nat) (k1 : Int) : zz29_X2 (zz29_k2 N) k1 = zz29_a2 k1 := by kernel_rfl
theorem zz29_in2 (N : Nat) (a0 : Y4) (k1 : Int) (i5 : Int) : zz29_R2 N N (zz29_K2 N) a0 k1 i5 = zz29_F2 N a0 k1 i5 :=
  have h : zz29_X2 (zz29_k2 N) = (zz29_a2) := (funext fun k1 => zz29_after2 N k1)
  ((iter_ex (fun st => by kernel_rfl) (fun st => by kernel_rfl)).trans (zz29_iter2 N (zz29_k2 N) (fun j st => (zz29_K2 N) (.exit j) st) N a0 k1 i5)).trans (congrArg (fun k => zz29_l2 N k N a0 k1 i5) h)
theorem run0_zz29 (N : Nat) (x : (S_zz29).a.den) : runF (A_zz29) N Try.f17 S_zz29 x = (zz29_s (zz29_R2 N N (zz29_K2 N)) x.1 x.2.1) := by kernel_rfl
theorem run_zz29 (N : Nat) (x : (S_zz29).a.den) : runF (A_zz29) N Try.f17 S_zz29 x = zz29 N x.1 x.2.1 := by
  refine (run0_zz29 N x).trans ?_
  rw [(funext fun a0 => (funext fun k1 => (funext fun i5 => zz29_in2 N a0 k1 i5)))]
  rfl
theorem fn_zz29 : FnOk Try.prog 17 := ⟨_, Try.func17, by kernel_rfl, by kernel_rfl⟩
theorem good_zz29 : Gx.Good Try.prog 17 S_zz29 := good_of_run Try.func17 (of_decide_eq_true (by kernel_rfl)) fun x r h => ⟨A_zz29, big, mkCfg_ok tabOk, mkCfg_sigs (show SigsOk Try.prog [] from trivial), (run_zz29 big x).trans h⟩

/-! laws_FnExactParseWord -/
def laws_FnExactParseWord_s (aS_0 : (List UInt8)) : Option (Bool × Unit) :=
  cond (decide ((1048576 : Int) < (aS_0.length : Int)))
  (some (true, (())))
  ((zz24 aS_0).bind fun rq1 =>
  (zz27 aS_0).bind fun rq2 =>
  (zz18 big rq2.1.1 rq1.1.1).bind fun rq3 =>
  cond (!rq3.1)
  (some (false, (())))
  (cond (((((), rq2.1.2).2).1) != ((((), rq1.1.2).2).1))
  (some (false, (())))
  ((zz28 big rq2.1.1 (1 : Int)).bind fun rq4 =>
  (zz29 big rq4.2.1 (1 : Int)).bind fun rq5 =>
  cond (decide (rq5.1 < (0 : Int)))
  (some (false, (())))
  (cond (decide (rq5.1 ≠ rq4.1))
  (some (false, (())))
  ((zz27 aS_0).bind fun rq6 =>
  (zz18 big rq6.1.1 rq1.1.1).bind fun rq7 =>
  cond (!rq7.1)
  (some (false, (())))
  (cond (((((), rq6.1.2).2).1) != ((((), rq1.1.2).2).1))
  (some (false, (())))
  ((zz29 big rq4.2.1 (1 : Int)).bind fun rq8 =>
  cond (decide (rq8.1 < (0 : Int)))
  (some (false, (())))
  (cond (decide (rq8.1 ≠ rq4.1))
  (some (false, (())))
  (some (true, (())))))))))))
def laws_FnExactParseWord (aS_0 : (List UInt8)) : Option (Bool × Unit) := laws_FnExactParseWord_s aS_0
def S_laws_FnExactParseWord : Sig := { a := (.pair .str .unit), md := [0], mf := [], m := .unit, r := .bool, rf := .i, f := fun x => laws_FnExactParseWord x.1 }
def A_laws_FnExactParseWord : Cfg := mkCfg tab [(14, S_zz24), (15, S_zz27), (11, S_zz18), (16, S_zz28), (17, S_zz29)] []
theorem run_laws_FnExactParseWord (N : Nat) (x : (S_laws_FnExactParseWord).a.den) : runF (A_laws_FnExactParseWord) N Try.f5 S_laws_FnExactParseWord x = laws_FnExactParseWord x.1 := by kernel_rfl
theorem fn_laws_FnExactParseWord : FnOk Try.prog 5 := ⟨_, Try.func5, by kernel_rfl, by kernel_rfl⟩
theorem good_laws_FnExactParseWord : Gx.Good Try.prog 5 S_laws_FnExactParseWord := good_of_run Try.func5 (of_decide_eq_true (by kernel_rfl)) fun x r h => ⟨A_laws_FnExactParseWord, big, mkCfg_ok tabOk, mkCfg_sigs (show SigsOk Try.prog [(14, S_zz24), (15, S_zz27), (11, S_zz18), (16, S_zz28), (17, S_zz29)] from ⟨⟨fn_zz24, good_zz24⟩, ⟨fn_zz27, good_zz27⟩, ⟨fn_zz18, good_zz18⟩, ⟨fn_zz28, good_zz28⟩, ⟨fn_zz29, good_zz29⟩, trivial⟩), (run_laws_FnExactParseWord big x).trans h⟩
end Go.Proofs.Ytiklgbjlggcejaa
