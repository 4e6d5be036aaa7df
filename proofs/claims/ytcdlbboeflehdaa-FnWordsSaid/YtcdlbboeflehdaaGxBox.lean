import Derived.Test.YtcdlbboeflehdaaGxGen
set_option linter.unusedSimpArgs false
set_option linter.unusedVariables false
namespace Go.Gx
open Go

/-! a function that boxes its struct and hands a field on to another one, which may write what the field owns -/
def op1 (o : Oper) : Option (Nat × Op) := match o.guard, o.dst with
  | none, some d => some (d, o.op)
  | _, _ => none

theorem op1_spec {o : Oper} {d : Nat} {p : Op} (h : op1 o = some (d, p)) : o.dst = some d ∧ o.op = p ∧ o.guard = none := by
  unfold op1 at h
  split at h
  · rename_i hg hd
    simp only [Option.some.injEq, Prod.mk.injEq] at h
    exact ⟨by rw [hd, h.1], h.2, hg⟩
  · cases h

def isT (n : Nat) : Operand → Bool
  | .tmp t => t == n
  | _ => false
theorem isT_eq {n : Nat} {x : Operand} (h : isT n x = true) : x = .tmp n := by
  cases x <;> simp_all [isT]

def bxOps (l0 l1 l2 : List (Option (Nat × Op))) : Option (TypeId × TypeId × Nat × FuncId) := match l0, l1, l2 with
  | [some (d0, .box T x0), some (d1, .assign _)], [some (d2, .fieldAddr _ x2 fi), some (d3, .load TS x3), some (d4, .move x4), some (d5, .call cc), some (d6, .assign x6)], [some (d7, .move x7), some (d8, .assign x8)] =>
    match cc.callee, cc.args.toList with
    | .value (.func g), [y0, y1] => if d0 == 2 && isT 0 x0 && d1 == 4 && d2 == 5 && isT 2 x2 && d3 == 6 && isT 5 x3 && d4 == 7 && isT 1 x4 && d5 == 8 && isT 6 y0 && isT 7 y1 && d6 == 1 && isT 8 x6 && d7 == 9 && isT 1 x7 && d8 == 4 && isT 9 x8 then some (T, TS, fi, g) else none
    | _, _ => none
  | _, _, _ => none

/-- the struct's type, the field's, its number, the function that is called -/
def bxOf (fn : Func) : Option (TypeId × TypeId × Nat × FuncId) := match fn.body with
  | some (.seq (.region _ ops0 false) (.seq (.region _ ops1 false) (.seq (.region _ ops2 false) .ret))) => if fn.ntmps == 10 then match fn.results.toList with
    | [.tmp r] => if r == 4 then bxOps (ops0.toList.map op1) (ops1.toList.map op1) (ops2.toList.map op1) else none
    | _ => none else none
  | _ => none

/-- and its field's type in the fieldAddr -/
def faOf (fn : Func) : Option TypeId := match fn.body with
  | some (.seq _ (.seq (.region _ ops1 _) _)) => match ops1.toList.map op1 with
    | some (_, .fieldAddr S _ _) :: _ => some S
    | _ => none
  | _ => none

def isOp (ops : Array Oper) (i d : Nat) (p : Op) : Prop := ∃ o, ops[i]? = some o ∧ o.dst = some d ∧ o.op = p ∧ o.guard = none

theorem isOp_of {ops : Array Oper} {l : List (Option (Nat × Op))} (h : ops.toList.map op1 = l) {i d : Nat} {p : Op} (hi : l[i]? = some (some (d, p))) : isOp ops i d p := by
  rw [← h, List.getElem?_map] at hi
  cases ho : ops.toList[i]? with
  | none => rw [ho] at hi; cases hi
  | some o =>
    rw [ho] at hi
    simp only [Option.map_some, Option.some.injEq] at hi
    obtain ⟨h1, h2, h3⟩ := op1_spec hi
    exact ⟨o, by rw [← ho]; simp, h1, h2, h3⟩

structure BxOps (ops0 ops1 ops2 : Array Oper) (T S TS : TypeId) (fi : Nat) (g : FuncId) : Prop where
  s0 : ops0.size = 2
  s1 : ops1.size = 5
  s2 : ops2.size = 2
  o0 : isOp ops0 0 2 (.box T (.tmp 0))
  o1 : ∃ x, isOp ops0 1 4 (.assign x)
  o2 : isOp ops1 0 5 (.fieldAddr S (.tmp 2) fi)
  o3 : isOp ops1 1 6 (.load TS (.tmp 5))
  o4 : isOp ops1 2 7 (.move (.tmp 1))
  o5 : ∃ cc : Call, isOp ops1 3 8 (.call cc) ∧ cc.callee = .value (.func g) ∧ cc.args.toList = [.tmp 6, .tmp 7]
  o6 : isOp ops1 4 1 (.assign (.tmp 8))
  o7 : isOp ops2 0 9 (.move (.tmp 1))
  o8 : isOp ops2 1 4 (.assign (.tmp 9))

theorem bxOps_spec {ops0 ops1 ops2 : Array Oper} {T TS fi g} (h : bxOps (ops0.toList.map op1) (ops1.toList.map op1) (ops2.toList.map op1) = some (T, TS, fi, g)) : ∃ S, (match ops1.toList.map op1 with | some (_, .fieldAddr S _ _) :: _ => some S | _ => none) = some S ∧ BxOps ops0 ops1 ops2 T S TS fi g := by
  generalize h0 : ops0.toList.map op1 = l0 at h
  generalize h1 : ops1.toList.map op1 = l1 at h
  generalize h2 : ops2.toList.map op1 = l2 at h
  unfold bxOps at h
  split at h
  case h_2 => cases h
  rename_i d0 T' x0 d1 x1 d2 S x2 fi' d3 TS' x3 d4 x4 d5 cc d6 x6 d7 x7 d8 x8
  split at h
  case h_2 => cases h
  rename_i g' y0 y1 hcal hargs
  split at h
  case isFalse => cases h
  rename_i hc
  simp only [Bool.and_eq_true, beq_iff_eq] at hc
  obtain ⟨⟨⟨⟨⟨⟨⟨⟨⟨⟨⟨⟨⟨⟨⟨⟨⟨c0, c1⟩, c2⟩, c3⟩, c4⟩, c5⟩, c6⟩, c7⟩, c8⟩, c9⟩, c10⟩, c11⟩, c12⟩, c13⟩, c14⟩, c15⟩, c16⟩, c17⟩ := hc
  simp only [Option.some.injEq, Prod.mk.injEq] at h
  obtain ⟨e1, e2, e3, e4⟩ := h
  subst e1; subst e2; subst e3; subst e4
  subst c0; subst c2; subst c3; subst c5; subst c7; subst c9; subst c12; subst c14; subst c16
  have c1 := isT_eq c1; have c4 := isT_eq c4; have c6 := isT_eq c6; have c8 := isT_eq c8; have c10 := isT_eq c10; have c11 := isT_eq c11; have c13 := isT_eq c13; have c15 := isT_eq c15; have c17 := isT_eq c17
  subst c1; subst c4; subst c6; subst c8; subst c10; subst c11; subst c13; subst c15; subst c17
  have len : ∀ {ops : Array Oper} {l : List (Option (Nat × Op))}, ops.toList.map op1 = l → ops.size = l.length := by
    intro ops l h
    rw [← h]; simp
  exact ⟨S, rfl, len h0, len h1, len h2, isOp_of h0 rfl, ⟨x1, isOp_of h0 rfl⟩, isOp_of h1 rfl, isOp_of h1 rfl, isOp_of h1 rfl, ⟨cc, isOp_of h1 rfl, hcal, hargs⟩, isOp_of h1 rfl, isOp_of h2 rfl, isOp_of h2 rfl⟩

section
variable {P : Program} {A : Cfg}

theorem step1 {ops : Array Oper} {Q : Exit → Act → World → Prop} {i : Nat} {o : Oper} {K : Act → World → Prop} {a : Act} {w : World} (hn : ops[i]? = some o) (hg : o.guard = none) (h : o.wp P a w K Q) : wpOp P ops Q i K a w := by
  unfold wpOp
  simp only [hn]
  rw [if_pos (by simp [Region.wanted, hg])]
  exact .inl h

theorem wp_asg {o : Oper} {x : Operand} {v : Value} {a : Act} {w : World} {K : Act → World → Prop} {Q : Exit → Act → World → Prop} (ho : o.op = .assign x) (hv : a.eval x = v) (hk : K (a.put o.dst v) w) : o.wp P a w K Q :=
  wp_value (by unfold execOp; simp [ho, hv, Sem.run, pure]) hk
theorem wp_mv {o : Oper} {x : Operand} {v : Value} {a : Act} {w : World} {K : Act → World → Prop} {Q : Exit → Act → World → Prop} (ho : o.op = .move x) (hv : a.eval x = v) (hk : K (a.put o.dst v) w) : o.wp P a w K Q :=
  wp_value (by unfold execOp; simp [ho, hv, Sem.run, pure]) hk

theorem wp_ld {o : Oper} {T : TypeId} {x : Operand} {b off : Nat} {v : Value} {a : Act} {w : World} {K : Act → World → Prop} {Q : Exit → Act → World → Prop} (ho : o.op = .load T x) (hv : a.eval x = .pointer (some ⟨b, off, none⟩)) (hrun : (loadVar T ⟨b, off, none⟩).run P w = .ok v w) (hk : K (a.put o.dst v) w) : o.wp P a w K Q :=
  wp_value (by unfold execOp; simp only [ho, hv, Instr.loadAt, Instr.sureAddr, Sem.run_bind, Sem.run_pure, Result.andThen_ok, hrun]) hk
theorem wp_fa (hA : CfgOk P A) {o : Oper} {S : TypeId} {x : Operand} {fi b off : Nat} {fts : List (Ty × Fl)} (hT : A.flds S = some fts) (hoff : offL fts fi = some off) {a : Act} {w : World} {K : Act → World → Prop} {Q : Exit → Act → World → Prop} (ho : o.op = .fieldAddr S x fi) (hv : a.eval x = .pointer (some ⟨b, 0, none⟩)) (hk : K (a.put o.dst (.pointer (some ⟨b, off, none⟩))) w) : o.wp P a w K Q := by
  refine wp_value ?_ hk
  obtain ⟨_, _, fields, _, _, hu, _, hfl, _⟩ := hA.flds _ fts hT
  obtain ⟨fl, t', q1, q2, q3, j, q4, q5⟩ := hfl.nth hoff
  have q1' : fields[fi]? = some fl := by simpa using q1
  have hne : j.size ≠ 0 := by omega
  unfold execOp
  simp only [ho, hv, Instr.fieldAt, Sem.run_bind, run_underlying hu, Result.andThen_ok, q1', Instr.sureAddr, Sem.run_pure, fieldPlace, sizeOf, typeInfo, run_program, q4, hne, if_false, addr_add, q2, Nat.zero_add]

theorem ret_ok {fn : Func} {a : Act} {w : World} {v : Value} (hres : fn.results.toList = [.tmp 4]) (hv : a.eval (.tmp 4) = v) : (results fn a.tmps).run P w = .ok v w := by
  have h := run_results (P := P) (w := w) (fn := fn) (tmps := a.tmps) (vs := [v]) (by rw [hres]; exact ⟨by subst hv; rfl, trivial⟩)
  exact h

theorem bx_core (hA : CfgOk P A) {f g : FuncId} {fn : Func} {T TS : TypeId} {fi : Nat} (hf : P.funcs[f]? = some fn) (hc : bxOf fn = some (T, TS, fi, g)) (hfa : faOf fn = some T) (hg : FnOk P g) {t : Ty} {gl : Fl} {fts : List (Ty × Fl)} {off : Nat}
    (hT : A.flds T = some fts) (hoff : offL fts fi = some off) (hTS : A.ty TS = some (.sl t, .o gl)) {w : World} {cs : List Value} {hv v1 : Value} (hcs : cs[off]? = some hv) {R : Ending → World → Prop}
    (hcall : Calls P g #[hv, v1] (w.alloc (.cells cs.toArray T)) fun e w' => match e with
      | .returned v => R (.returned v) w'
      | _ => False) : Calls P f #[.agg cs.toArray, v1] w R := by
  unfold bxOf at hc
  split at hc
  case h_2 => cases hc
  rename_i i0 ops0 i1 ops1 i2 ops2 hb
  split at hc
  case isFalse => cases hc
  rename_i hnt
  split at hc
  case h_2 => cases hc
  rename_i r hres
  split at hc
  case isFalse => cases hc
  rename_i hr
  rw [beq_iff_eq] at hnt hr
  subst hr
  obtain ⟨S, hS, hops⟩ := bxOps_spec hc
  have hST : S = T := by
    unfold faOf at hfa
    rw [hb] at hfa
    simp only at hfa
    rw [hS] at hfa
    exact Option.some.inj hfa
  subst hST
  refine calls_of_wp hf hb ?_
  rw [hnt]
  have hta : (#[Value.agg cs.toArray, v1] ++ Array.replicate (10 - (#[Value.agg cs.toArray, v1] : Array Value).size) undef) = #[Value.agg cs.toArray, v1, undef, undef, undef, undef, undef, undef, undef, undef] := rfl
  rw [hta]
  obtain ⟨oa, a1, a2, a3, a4⟩ := hops.o0
  obtain ⟨xb, ob, b1, b2, b3, b4⟩ := hops.o1
  obtain ⟨oc, c1, c2, c3, c4⟩ := hops.o2
  obtain ⟨od, d1, d2, d3, d4⟩ := hops.o3
  obtain ⟨oe, e1, e2, e3, e4⟩ := hops.o4
  obtain ⟨cc, ⟨of, f1, f2, f3, f4⟩, f5, f6⟩ := hops.o5
  obtain ⟨og, g1, g2, g3, g4⟩ := hops.o6
  obtain ⟨oh, h1, h2, h3, h4⟩ := hops.o7
  obtain ⟨oi, i1, i2, i3, i4⟩ := hops.o8
  -- the box
  refine wp_seq (wp_region ?_)
  rw [hops.s0, show List.range 2 = [0, 1] from rfl, wpOps_cons]
  refine step1 a1 a4 (wp_value (v := .pointer (some ⟨w.heap.size, 0, none⟩)) (w' := w.alloc (.cells cs.toArray S)) ?_ ?_)
  · unfold execOp
    simp [a3, Instr.box, newVar, newRow, Act.eval, Value.cells]
  rw [a2, wpOps_cons]
  obtain ⟨vb, hvb⟩ : ∃ vb, Act.eval (Act.put ⟨#[Value.agg cs.toArray, v1, undef, undef, undef, undef, undef, undef, undef, undef], []⟩ (some 2) (.pointer (some ⟨w.heap.size, 0, none⟩))) xb = vb := ⟨_, rfl⟩
  refine step1 b1 b4 (wp_asg b3 hvb ?_)
  rw [b2]
  change Code.wp P _ _ ⟨#[Value.agg cs.toArray, v1, .pointer (some ⟨w.heap.size, 0, none⟩), undef, vb, undef, undef, undef, undef, undef], []⟩ _
  -- the field
  have hblk : (w.alloc (.cells cs.toArray S)).heap[w.heap.size]? = some (.cells cs.toArray S (0, 0)) := heap_alloc_new w _
  generalize hw1 : w.alloc (.cells cs.toArray S) = w1 at hblk hcall ⊢
  refine wp_seq (wp_region ?_)
  rw [hops.s1, show List.range 5 = [0, 1, 2, 3, 4] from rfl, wpOps_cons]
  refine step1 c1 c4 (wp_fa hA hT hoff c3 (b := w.heap.size) rfl ?_)
  rw [c2, wpOps_cons]
  obtain ⟨v, hload, hhold⟩ := run_loadVar (P := P) (hA.ty _ _ _ hTS) hblk (off := off) (cs := [hv]) (by
    obtain ⟨hlt, hget⟩ := List.getElem?_eq_some_iff.1 hcs
    rw [List.drop_eq_getElem_cons (by simpa using hlt)]
    simp [Ty.cells, hget]) rfl
  simp only [Holds, List.cons.injEq, and_true] at hhold
  subst hhold
  refine step1 d1 d4 (wp_ld d3 (b := w.heap.size) (off := off) rfl hload ?_)
  rw [d2, wpOps_cons]
  refine step1 e1 e4 (wp_mv e3 (v := v1) rfl ?_)
  rw [e2, wpOps_cons]
  refine step1 f1 f4 ?_
  obtain ⟨gfn, hgf, hgb, hgn⟩ := hg
  unfold Oper.wp
  rw [show (execOp (Act.eval _) of).run P w1 = .ok (.enter g #[hv, v1]) w1 from by
    have hargs : cc.args = #[.tmp 6, .tmp 7] := by
      have := congrArg List.toArray f6
      simpa using this
    unfold execOp
    simp only [f3, resolve, f5, Act.eval, Deferred.ofValue, Sem.run_bind, Sem.run_pure, Result.andThen_ok, invoke, callFunc, run_program, hgf, hgb, hgn, hargs]
    simp
    exact ⟨rfl, rfl⟩, Oper.upon_enter]
  refine hcall.mono fun e w' he => ?_
  cases e with
  | panicked chain => exact he.elim
  | outgrown => exact he.elim
  | returned v =>
    simp only at he ⊢
    rw [f2, wpOps_cons]
    refine step1 g1 g4 (wp_asg g3 (v := v) rfl ?_)
    rw [g2]
    change Code.wp P _ _ ⟨#[Value.agg cs.toArray, v, .pointer (some ⟨w.heap.size, 0, none⟩), undef, vb, .pointer (some ⟨w.heap.size, off, none⟩), hv, v1, v, undef], []⟩ _
    refine wp_seq (wp_region ?_)
    rw [hops.s2, show List.range 2 = [0, 1] from rfl, wpOps_cons]
    refine step1 h1 h4 (wp_mv h3 (v := v) rfl ?_)
    rw [h2, wpOps_cons]
    refine step1 i1 i4 (wp_asg i3 (v := v) rfl ?_)
    rw [i2]
    change Code.wp P _ _ ⟨#[Value.agg cs.toArray, v, .pointer (some ⟨w.heap.size, 0, none⟩), undef, v, .pointer (some ⟨w.heap.size, off, none⟩), hv, v1, v, v], []⟩ _
    refine wp_ret ?_
    exact ⟨rfl, v, ret_ok hres rfl, he⟩

/-- what the called function leaves, of the struct's owner -/
theorem bx_left {w w1 : World} {N : Nat → Prop} {S1 : Sig} {M : List Nat} (h1 : w1.heap.size = w.heap.size + 1) (hs : ∀ b, b < w.heap.size → w1.heap[b]? = w.heap[b]?) (e1 : w1.os = w.os) (e2 : w1.tape = w.tape) (e3 : w1.output = w.output) (e4 : ∀ a, w1.frozen? a = w.frozen? a)
    {args args' : List Value} {S2 : Sig} {r1 : S1.r.den × S1.m.den} {r2 : S2.r.den × S2.m.den} {v : Value} {w' : World} (hl : Left S1 w1 N args' M r1 v w')
    (hr : ∀ {N2 : Nat → Prop} {F}, RepV w' N2 S1.r S1.rf r1.1 v F → RepV w' N2 S2.r S2.rf r2.1 v F)
    (hm : ∀ {N2 : Nat → Prop} {M'}, MutsR w' N2 S1.m S1.md S1.mf r1.2 args' M' → MutsR w' N2 S2.m S2.md S2.mf r2.2 args M') 
    (mono : ∀ {N2 N3 : Nat → Prop} {M'}, (∀ b, N2 b → N3 b) → MutsR w' N2 S2.m S2.md S2.mf r2.2 args M' → MutsR w' N3 S2.m S2.md S2.mf r2.2 args M') : Left S2 w N args M r2 v w' := by
  obtain ⟨F, M', q1, q2, q3, q4, q5, q6, q7, q8, q9, q10, q11⟩ := hl
  have hN : ∀ b, (b < w'.heap.size ∧ b ∉ F ∧ b ∉ M' ∧ (b < w1.heap.size → N b ∨ b ∈ M)) → (b < w'.heap.size ∧ b ∉ F ∧ b ∉ M' ∧ (b < w.heap.size → N b ∨ b ∈ M)) := fun b hb => ⟨hb.1, hb.2.1, hb.2.2.1, fun h => hb.2.2.2 (by omega)⟩
  refine ⟨F, M', q1, hr (q2.mono (fun b hb => ⟨hN b hb, rfl⟩) fun _ _ => rfl), mono hN (hm q3), fun b hb => ?_, q5, fun b hb hbM => ?_, by omega, q8.trans e1, q9.trans e2, q10.trans e3, trivial⟩
  · rcases q4 b hb with h | h
    · exact .inl h
    · exact .inr (by omega)
  · rw [q6 b (by omega) hbM, hs b hb]

theorem two_of {α : Type} {l : List α} {p : α → α → Prop} (h0 : l ≠ []) (h1 : ∀ x, l ≠ [x]) (h3 : ∀ x y z r, l ≠ x :: y :: z :: r) : ∃ x y, l = [x, y] := by
  match l, h0, h1, h3 with
  | [x, y], _, _, _ => exact ⟨x, y, rfl⟩
  | [], h, _, _ => exact absurd rfl h
  | [x], _, h, _ => exact absurd rfl (h x)
  | x :: y :: z :: r, _, _, h => exact absurd rfl (h x y z r)

theorem good_bx1 (hA : CfgOk P A) {f g : FuncId} {fn : Func} {T TS : TypeId} (hf : P.funcs[f]? = some fn) (hc : bxOf fn = some (T, TS, 0, g)) (hfa : faOf fn = some T) (hg : FnOk P g) {t : Ty} {gl : Fl}
    (hT : A.flds T = some [(.sl t, .o gl)]) (hTS : A.ty TS = some (.sl t, .o gl)) {h : (Ty.pair (.sl t) (.pair (.int .i64) .unit)).den → Option (Int × (List t.den × Unit))}
    (hgood : Good P g { a := .pair (.sl t) (.pair (.int .i64) .unit), md := [1, 0], mf := [.o gl], m := .pair (.sl t) .unit, r := .int .i64, rf := .i, f := h }) :
    Good P f { a := .pair (.pair (.sl t) .unit) (.pair (.int .i64) .unit), md := [1, 0], mf := [.p (.o gl) .i], m := .pair (.pair (.sl t) .unit) .unit, r := .int .i64, rf := .i, f := fun x => (h (x.1.1, x.2.1, ())).bind fun r => some (r.1, ((r.2.1, ()), ())) } := by
  intro x r hx w N args M hargs hnd hM hN
  cases h0 : h (x.1.1, x.2.1, ()) with
  | none => simp only [h0] at hx; cases hx
  | some r0 =>
    simp only [h0, Option.bind_some, Option.some.injEq] at hx
    subst hx
    obtain ⟨v0, v1, hl⟩ : ∃ v0 v1, args.toList = [v0, v1] := by
      cases hl : args.toList with
      | nil => rw [hl] at hargs; exact hargs.elim
      | cons v0 l =>
        cases l with
        | nil => rw [hl] at hargs; obtain ⟨_, _, _, _, h⟩ := hargs; exact h.elim
        | cons v1 l =>
          cases l with
          | nil => exact ⟨v0, v1, rfl⟩
          | cons v2 l => rw [hl] at hargs; obtain ⟨_, _, _, _, _, h⟩ := hargs; exact h.elim
    have hargs2 := hargs
    rw [hl] at hargs2
    obtain ⟨M1, M2, eM, ⟨cs, hh, hrep⟩, hint, hM2⟩ := hargs2
    have hM2 : M2 = [] := hM2
    subst hM2
    rw [List.append_nil] at eM
    subst eM
    have hh : v0 = .agg cs.toArray := hh
    simp only [Rep] at hrep
    obtain ⟨F1, F2, eF, hlen, hr1, hr2, eF2⟩ := hrep
    subst eF2
    rw [List.append_nil] at eF
    subst eF
    have hcl : cs.length = 1 := by
      have := congrArg List.length hr2
      simp [Ty.cells] at this
      have h2 : (Ty.sl t).cells ≤ cs.length := hlen
      simp [Ty.cells] at h2
      omega
    obtain ⟨hv, rfl⟩ := List.length_eq_one_iff.1 hcl
    have hargsE : args = #[v0, v1] := by
      have := congrArg List.toArray hl
      simpa using this
    rw [hl, hargsE, hh]
    have hr1' : Rep w N (.sl t) (.o gl) x.1.1 [hv] M := hr1
    have hsame : ∀ b, b < w.heap.size → (w.alloc (.cells #[hv] T)).heap[b]? = w.heap[b]? := fun b hb => alloc_same w _ b hb
    refine bx_core hA hf hc hfa hg (off := 0) hT rfl hTS (cs := [hv]) rfl ?_
    have hcall := hgood (x.1.1, x.2.1, ()) r0 h0 (w.alloc (.cells #[hv] T)) N #[hv, v1] M ⟨M, [], by simp, ⟨[hv], rfl, hr1'.mono (fun b hb => ⟨hb, hsame b (hN b hb)⟩) fun b hb => hsame b (hM b hb).2⟩, by
      obtain ⟨c1, c2, c3⟩ := hint
      exact ⟨⟨c1, c2, c3⟩, rfl⟩⟩ hnd (fun b hb => ⟨(hM b hb).1, by have := (hM b hb).2; simp; omega⟩) (fun b hb => by have := hN b hb; simp; omega)
    refine hcall.mono fun e w' he => ?_
    cases e with
    | panicked chain => exact he.elim
    | outgrown => exact he.elim
    | returned v =>
      refine bx_left (w1 := w.alloc (.cells #[hv] T)) (by simp) hsame rfl rfl rfl (frozen_alloc w _ _) he (fun h => h) ?_ ?_
      · intro N2 M' hm
        obtain ⟨M1, M2, q1, ⟨cs, q2, q3⟩, q4⟩ := hm
        have q2 : cs = [hv] := q2
        subst q2
        refine ⟨M1, M2, q1, ⟨[hv], rfl, ?_⟩, q4⟩
        exact ⟨M1, [], by simp, by simp [Ty.cells], q3, rfl, rfl⟩
      · intro N2 N3 M' hsub hm
        obtain ⟨M1, M2, q1, q2, q4⟩ := hm
        exact ⟨M1, M2, q1, q2.mono (fun b hb => ⟨hsub b hb, rfl⟩) fun _ _ => rfl, q4⟩

theorem good_bx2 (hA : CfgOk P A) {f g : FuncId} {fn : Func} {T TS : TypeId} (hf : P.funcs[f]? = some fn) (hc : bxOf fn = some (T, TS, 1, g)) (hfa : faOf fn = some T) (hg : FnOk P g) {t : Ty} {gl : Fl}
    (hT : A.flds T = some [(.int .i64, .i), (.sl t, .o gl)]) (hTS : A.ty TS = some (.sl t, .o gl)) {h : (Ty.pair (.sl t) (.pair (.int .i64) .unit)).den → Option (Int × (List t.den × Unit))}
    (hgood : Good P g { a := .pair (.sl t) (.pair (.int .i64) .unit), md := [1, 0], mf := [.o gl], m := .pair (.sl t) .unit, r := .int .i64, rf := .i, f := h }) :
    Good P f { a := .pair (.pair (.int .i64) (.pair (.sl t) .unit)) (.pair (.int .i64) .unit), md := [1, 0], mf := [.p .i (.p (.o gl) .i)], m := .pair (.pair (.int .i64) (.pair (.sl t) .unit)) .unit, r := .int .i64, rf := .i, f := fun x => (h (x.1.2.1, x.2.1, ())).bind fun r => some (r.1, ((x.1.1, r.2.1, ()), ())) } := by
  intro x r hx w N args M hargs hnd hM hN
  cases h0 : h (x.1.2.1, x.2.1, ()) with
  | none => simp only [h0] at hx; cases hx
  | some r0 =>
    simp only [h0, Option.bind_some, Option.some.injEq] at hx
    subst hx
    obtain ⟨v0, v1, hl⟩ : ∃ v0 v1, args.toList = [v0, v1] := by
      cases hl : args.toList with
      | nil => rw [hl] at hargs; exact hargs.elim
      | cons v0 l =>
        cases l with
        | nil => rw [hl] at hargs; obtain ⟨_, _, _, _, h⟩ := hargs; exact h.elim
        | cons v1 l =>
          cases l with
          | nil => exact ⟨v0, v1, rfl⟩
          | cons v2 l => rw [hl] at hargs; obtain ⟨_, _, _, _, _, h⟩ := hargs; exact h.elim
    have hargs2 := hargs
    rw [hl] at hargs2
    obtain ⟨M1, M2, eM, ⟨cs, hh, hrep⟩, hint, hM2⟩ := hargs2
    have hM2 : M2 = [] := hM2
    subst hM2
    rw [List.append_nil] at eM
    subst eM
    have hh : v0 = .agg cs.toArray := hh
    simp only [Rep] at hrep
    obtain ⟨F0, F3, eF, hlen, ⟨hr0, eF0⟩, F1, F2, eF3, hlen2, hr1, hr2, eF2⟩ := hrep
    subst eF2
    subst eF0
    rw [List.append_nil] at eF3
    rw [List.nil_append, eF3] at eF
    subst eF
    have hcl : cs.length = 2 := by
      have h3 := congrArg List.length hr2
      simp [Ty.cells] at h3
      have h1 : (Ty.int .i64).cells ≤ cs.length := hlen
      have h2 : (Ty.sl t).cells ≤ (cs.drop 1).length := hlen2
      simp [Ty.cells] at h1 h2
      omega
    obtain ⟨h0v, hv, rfl⟩ : ∃ p q, cs = [p, q] := match cs, hcl with
      | [p, q], _ => ⟨p, q, rfl⟩
    have hargsE : args = #[v0, v1] := by
      have := congrArg List.toArray hl
      simpa using this
    rw [hl, hargsE, hh]
    have hr0' : h0v = .int .i64 x.1.1 := by
      have : ([h0v] : List Value) = [.int .i64 x.1.1] := hr0
      simpa using this
    have hr1' : Rep w N (.sl t) (.o gl) x.1.2.1 [hv] M := hr1
    have hsame : ∀ b, b < w.heap.size → (w.alloc (.cells #[h0v, hv] T)).heap[b]? = w.heap[b]? := fun b hb => alloc_same w _ b hb
    refine bx_core hA hf hc hfa hg (off := 1) hT rfl hTS (cs := [h0v, hv]) rfl ?_
    have hcall := hgood (x.1.2.1, x.2.1, ()) r0 h0 (w.alloc (.cells #[h0v, hv] T)) N #[hv, v1] M ⟨M, [], by simp, ⟨[hv], rfl, hr1'.mono (fun b hb => ⟨hb, hsame b (hN b hb)⟩) fun b hb => hsame b (hM b hb).2⟩, by
      obtain ⟨c1, c2, c3⟩ := hint
      exact ⟨⟨c1, c2, c3⟩, rfl⟩⟩ hnd (fun b hb => ⟨(hM b hb).1, by have := (hM b hb).2; simp; omega⟩) (fun b hb => by have := hN b hb; simp; omega)
    refine hcall.mono fun e w' he => ?_
    cases e with
    | panicked chain => exact he.elim
    | outgrown => exact he.elim
    | returned v =>
      refine bx_left (w1 := w.alloc (.cells #[h0v, hv] T)) (by simp) hsame rfl rfl rfl (frozen_alloc w _ _) he (fun h => h) ?_ ?_
      · intro N2 M' hm
        obtain ⟨M1, M2, q1, ⟨cs, q2, q3⟩, q4⟩ := hm
        have q2 : cs = [hv] := q2
        subst q2
        refine ⟨M1, M2, q1, ⟨[h0v, hv], rfl, ?_⟩, q4⟩
        exact ⟨[], M1, by simp, by simp [Ty.cells], ⟨by simp [Ty.cells, hr0'], rfl⟩, M1, [], by simp, by simp [Ty.cells], q3, rfl, rfl⟩
      · intro N2 N3 M' hsub hm
        obtain ⟨M1, M2, q1, q2, q4⟩ := hm
        exact ⟨M1, M2, q1, q2.mono (fun b hb => ⟨hsub b hb, rfl⟩) fun _ _ => rfl, q4⟩
end
end Go.Gx
