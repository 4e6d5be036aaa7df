import Derived.Test.YtpomjejencfiiaaGxOps3
set_option linter.unusedSimpArgs false
set_option linter.unusedVariables false
namespace Go.Gx
open Go

theorem frozen_alloc (w : World) (cs : Array Value) (t : TypeId) (a : Addr) : (w.alloc (.cells cs t)).frozen? a = w.frozen? a := by
  have e : (w.alloc (.cells cs t)).heap[a.block]? = (w.heap.push (.cells cs t))[a.block]? := rfl
  unfold World.frozen?
  rw [e, Array.getElem?_push]
  by_cases h : a.block = w.heap.size
  · rw [if_pos h, h, Array.getElem?_eq_none (Nat.le_refl _)]
    simp
  · rw [if_neg h]

theorem frozen_setRow {w : World} {g : Nat} {old : Array Value} {t : TypeId} {fr : Nat × Nat} (hg : w.heap[g]? = some (.cells old t fr)) (cs : Array Value) (a : Addr) : (w.setRow g cs).frozen? a = w.frozen? a := by
  unfold World.frozen?
  by_cases h : a.block = g
  · rw [h, setRow_heap w g old cs t fr hg, hg]
  · rw [setRow_other w g _ cs h]

theorem RepL.of_seg {α : Type} {f : α → List Value → List Nat → Prop} {sz : Nat} : ∀ {xs : List α} {cs : List Value}, xs.length * sz ≤ cs.length → (∀ i x, xs[i]? = some x → f x ((cs.drop (i * sz)).take sz) []) → RepL f sz xs cs []
  | [], _, _, _ => rfl
  | x :: xs, cs, hl, h => by
    simp only [List.length_cons, Nat.succ_mul] at hl
    refine ⟨[], [], rfl, by omega, by simpa using h 0 x rfl, RepL.of_seg (by simp only [List.length_drop]; omega) fun i y hy => ?_⟩
    rw [List.drop_drop]
    have := h (i + 1) y (by simpa using hy)
    rw [Nat.succ_mul, Nat.add_comm (i * sz)] at this
    exact this

theorem RepL.seg {α : Type} {f : α → List Value → List Nat → Prop} {sz : Nat} {xs : List α} {cs : List Value} (h : RepL f sz xs cs []) (i : Nat) (x : α) (hx : xs[i]? = some x) : f x ((cs.drop (i * sz)).take sz) [] := by
  obtain ⟨F0, m, _, h⟩ := h.nth hx
  have : F0 = [] := List.eq_nil_iff_forall_not_mem.2 fun b hb => by cases m b hb
  rw [this] at h; exact h

theorem RepL.append {α : Type} {f : α → List Value → List Nat → Prop} {sz : Nat} : ∀ {xs ys : List α} {cs ds es : List Value}, RepL f sz xs cs [] → cs.length = xs.length * sz → RepL f sz ys ds [] → RepL f sz (xs ++ ys) (cs ++ ds ++ es) []
  | [], ys, cs, ds, es, _, hl, h => by
    have : cs = [] := List.eq_nil_of_length_eq_zero (by simpa using hl)
    subst this
    have key : ∀ {ys : List α} {ds : List Value}, RepL f sz ys ds [] → RepL f sz ys (ds ++ es) [] := by
      intro ys
      induction ys with
      | nil => intro ds _; rfl
      | cons y ys ih =>
        intro ds h
        obtain ⟨F1, F2, e, hl, hx, hr⟩ := h
        have e' := List.append_eq_nil_iff.1 e.symm
        rw [e'.1] at hx
        rw [e'.2] at hr
        refine ⟨[], [], rfl, by simp; omega, ?_, ?_⟩
        · rw [List.take_append_of_le_length hl]; exact hx
        · rw [List.drop_append_of_le_length hl]; exact ih hr
    simpa using key h
  | x :: xs, ys, cs, ds, es, ⟨F1, F2, e, hc, hx, hr⟩, hl, h => by
    have e' := List.append_eq_nil_iff.1 e.symm
    rw [e'.1] at hx
    rw [e'.2] at hr
    simp only [List.length_cons, Nat.succ_mul] at hl
    refine ⟨[], [], rfl, by simp; omega, ?_, ?_⟩
    · rw [List.append_assoc, List.take_append_of_le_length hc]; exact hx
    · have := RepL.append (es := es) hr (by simp only [List.length_drop]; omega) h
      rw [List.append_assoc, List.drop_append_of_le_length hc, ← List.append_assoc]
      exact this

theorem toList_madeCells_seg (z : Array Value) (c j : Nat) (hj : j < c) : ((madeCells z (c * z.size)).toList.drop (j * z.size)).take z.size = z.toList := by
  apply List.ext_getElem?
  intro i
  by_cases hi : i < z.size
  · have h1 : j * z.size + i < c * z.size := by
      have : (j + 1) * z.size ≤ c * z.size := Nat.mul_le_mul_right _ hj
      rw [Nat.succ_mul] at this; omega
    rw [List.getElem?_take, if_pos hi, List.getElem?_drop]
    simp only [madeCells, Array.toList_map, Array.toList_range, List.getElem?_map, List.getElem?_range h1, Option.map_some]
    have : (j * z.size + i) % z.size = i := by rw [Nat.add_comm, Nat.add_mul_mod_self_right]; exact Nat.mod_eq_of_lt hi
    rw [this]
    simp [hi]
  · rw [List.getElem?_take, if_neg hi]
    simp [Nat.le_of_not_lt hi]

section
variable {P : Program} {A : Cfg} {c : Ctx} {own : Nat → List Nat} {st : St} {a : Act} {w : World} {ρ : Type}

theorem rep_zero {N : Nat → Prop} : ∀ {t : Ty} {f : Fl}, t.hasZero = true → Rep w N t f (zeroTy t) (zc t) []
  | .int _, _, _ => ⟨rfl, rfl⟩
  | .bool, _, _ => ⟨rfl, rfl⟩
  | .str, _, _ => ⟨rfl, rfl⟩
  | .unit, _, _ => ⟨rfl, rfl⟩
  | .any _, _, h => by simp [Ty.hasZero] at h
  | .tup _, _, h => by simp [Ty.hasZero] at h
  | .ptr _, _, h => by simp [Ty.hasZero] at h
  | .opt _, _, _ => by simp [Rep, zeroTy, zc]
  | .sl t, f, _ => by
    simp only [Rep, zeroTy, zc]
    split
    · exact .inl ⟨trivial, trivial, trivial⟩
    · exact ⟨trivial, none, 0, rfl, Nat.le_refl _, Nat.zero_le _, fun h => absurd rfl h⟩
  | .pair a b, f, h => by
    simp only [Ty.hasZero, Bool.and_eq_true] at h
    have h1 := rep_zero (N := N) (f := f.l) h.1
    have h2 := rep_zero (N := N) (f := f.r) h.2
    have l1 := h1.len
    simp only [Rep, zeroTy, zc]
    refine ⟨[], [], rfl, by simp; omega, ?_, ?_⟩
    · rw [← l1, List.take_left']
      · exact h1
      · rfl
    · rw [← l1, List.drop_left']
      · exact h2
      · rfl

theorem mkI_some {α : Type} {x : α} {n : Int} {l : List α} (h : mkI x n = some l) : 0 ≤ n ∧ n ≤ 4294967296 ∧ l = List.replicate n.toNat x := by
  unfold mkI at h
  split at h
  · rename_i h0
    simp only [Option.some.injEq] at h
    exact ⟨h0.1, h0.2, h.symm⟩
  · cases h

theorem opGoal_world {o : Oper} {k : St → Option ρ} {r : ρ} {v : V} {value : Value} {w' : World} {own2 : Nat → List Nat} {st2 : St} {F : List Nat} (h : Inv c own2 F st2 a w') (hr : (execOp a.eval o).run P w = .ok (.value value) w') (hv : SlotOk w' (NB c own2 F w') st2 a F value v) (hk : k (st2.putO o.dst v) = some r) : OpGoal P c o k r a w := by
  intro hfx K Q hK
  have h2 : Inv c own2 (F ++ []) st2 a w' := by simpa using h
  obtain ⟨own', h'⟩ := Inv.putO (F := F) (E := []) o.dst h2 (by simpa using hv) (fixed_of hfx)
  exact wp_value hr (hK _ _ _ _ hk h')

theorem makeSlice_ok (hA : CfgOk P A) {o : Oper} {T : TypeId} {l cc : Operand} {t : Ty} {f f1 f2 : Fl} {k1 k2 : IntKind} {m n : Int} {k : St → Option ρ} {r : ρ} (ho : o.op = .makeSlice T l cc) (hT : A.elem T = some (t, f)) (hz : t.hasZero = true) (h : Inv c own [] st a w)
    (hl : opd st l = .val (.int k1) f1 m) (hc : opd st cc = .val (.int k2) f2 n) (hk : ((mkI (zeroTy t) n).bind fun _ => (mkI (zeroTy t) m).bind fun xs => cond (decide (m ≤ n)) (k (st.putO o.dst (.val (.sl t) (.o f) xs))) none) = some r) : OpGoal P c o k r a w := by
  have hlv := opd_ok h l
  have hcv := opd_ok h cc
  rw [hl] at hlv
  rw [hc] at hcv
  obtain ⟨e, i, hu, hty, hi, hb, hpos, _⟩ := hA.elem T t f hT
  obtain ⟨i', z, d, h1, h2, h3, h4, h5, _⟩ := hty
  rw [hi] at h1
  simp only [Option.some.injEq] at h1
  subst h1
  cases hn : mkI (zeroTy t) n with
  | none => rw [hn] at hk; cases hk
  | some ys =>
    cases hm : mkI (zeroTy t) m with
    | none => rw [hn, hm] at hk; cases hk
    | some xs =>
      rw [hn, hm] at hk
      simp only [Option.bind_some] at hk
      obtain ⟨n0, n1, _⟩ := mkI_some hn
      obtain ⟨m0, m1, hxs⟩ := mkI_some hm
      by_cases hle : m ≤ n
      · simp only [hle, decide_true, cond_true] at hk
        have hbytes : (i.bytes : Int) * n ≤ 281474976710656 := by
          have : (i.bytes : Int) * n ≤ 32768 * 4294967296 := by
            apply Int.mul_le_mul <;> omega
          omega
        have hrun := run_make (P := P) w T e i z hu hi h3 k1 k2 m n m0 hle hbytes (by omega)
        have hinv := h.grown (w' := w.alloc (.cells (madeCells z.cells (n.toNat * i.size)) e)) (E' := [w.heap.size]) (fun b hb _ => heap_alloc_old w _ hb) (by simp) rfl rfl rfl (frozen_alloc w _ _) (by simp) (by intro b hb; simp at hb; subst hb; simp)
        refine opGoal_world hinv (v := .val (.sl t) (.o f) xs) (value := .slice (some ⟨w.heap.size, 0, none⟩) m.toNat n.toNat) ?_ ?_ hk
        · unfold execOp
          simp only [ho, hlv.int, hcv.int, Sem.run_bind, hrun, Result.andThen_ok, Sem.run_pure]
        · refine .inl ⟨_, rfl, ?_⟩
          have hzs : z.cells.size = i.size := by
            have := congrArg List.length (h4.1 hz)
            have hl := (rep_zero (N := fun _ => True) (w := w) (f := .i) hz).len
            simp only [Array.length_toList] at this
            omega
          simp only [Rep]
          refine .inr ⟨w.heap.size, n.toNat, _, e, [], ?_, heap_alloc_new w _, ?_, ?_, ?_, by simp, ?_⟩
          · rw [hxs]; simp
          · rw [size_madeCells, h2]
          · rw [hxs]; simp; omega
          · simp only [maxLen]; omega
          · rw [hxs]
            refine RepL.of_seg ?_ fun j x hx => ?_
            · simp only [List.length_replicate, Array.length_toList, size_madeCells, ← h2]
              exact Nat.mul_le_mul_right _ (by omega)
            · rw [List.getElem?_replicate] at hx
              split at hx
              case isFalse => cases hx
              rename_i hj
              simp only [Option.some.injEq] at hx
              subst hx
              rw [← h2, ← hzs, toList_madeCells_seg _ _ _ (by omega), h4.1 hz]
              exact rep_zero hz
      · simp [hle] at hk

/-- an aliases' target goes into hand -/
theorem consume_ok {E : List Nat} (h : Inv c own E st a w) {v : V} {value : Value} {k : St → (t : Ty) → Fl → t.den → Option ρ} {r : ρ} (hv : VOk w (NB c own E w) st a v value) (hk : consume st v k = some r) :
    ∃ own' F st' t f x, k st' t f x = some r ∧ Inv c own' (F ++ E) st' a w ∧ RepV w (NB c own' (F ++ E) w) t f x value F ∧ (∀ i t f x, St.get st' i = .val t f x → st.get i = .val t f x) ∧ (∀ b, NB c own E w b → NB c own' (F ++ E) w b) := by
  unfold consume at hk
  split at hk
  · rename_i t f x
    exact ⟨own, [], st, t, f, x, hk, by simpa using h, by simpa using hv.val, fun _ _ _ _ h => h, fun b hb => by simpa using hb⟩
  · rename_i s
    split at hk
    · rename_i t f x hs
      have hr := hv.ref
      obtain ⟨hinv, hget, hN⟩ := h.takeSlot hr.1
      have hsl := h.slot s
      rw [hs] at hsl
      have hval : RepV w (NB c own E w) t f x value (own s) := by
        obtain ⟨_, ⟨_, _, rfl⟩ | ⟨t1, f1, x1, cs, t', cs', l', e1, e5, e2, e3, e4⟩⟩ := hr
        · exact hsl
        · rw [hs] at e1
          cases e1
          simp only [At] at e3
          obtain ⟨rfl, rfl, rfl⟩ := e3
          rcases hsl with ⟨cs0, g1, g2⟩ | ⟨u, _, _, g1, _⟩
          · obtain rfl := Holds.uniq e5.1 g1 e2
            exact .inl ⟨cs0, e4, g2⟩
          · subst g1; exact e2.elim
      refine ⟨_, own s, _, t, f, x, hk, hinv, hval.mono (fun b hb => ⟨hN b hb, rfl⟩) (fun b _ => rfl), fun i t f x hi => ?_, hN⟩
      · rw [hget] at hi
        split at hi
        · cases hi
        · cases hvi : st.get i <;> rw [hvi] at hi <;> simp only [V.drop] at hi
          · cases hi
          · exact hi
          · split at hi <;> cases hi
          · split at hi <;> cases hi
          · cases hi
          · cases hi
    · cases hk
  · cases hk

end
end Go.Gx
