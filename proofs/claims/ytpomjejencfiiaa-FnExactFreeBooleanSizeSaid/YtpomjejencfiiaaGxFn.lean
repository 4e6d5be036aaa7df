import Derived.Test.YtpomjejencfiiaaGxLoop
set_option linter.unusedSimpArgs false
set_option linter.unusedVariables false
namespace Go.Gx
open Go

section
variable {P : Program} {A : Cfg} {c : Ctx} {own : Nat → List Nat} {st : St} {a : Act} {w : World} {ρ : Type}

theorem run_mapM {α β : Type} {f : α → Sem β} {g : α → β} {as : Array α} (h : ∀ x ∈ as.toList, (f x).run P w = .ok (g x) w) : (as.mapM f).run P w = .ok (as.toList.map g).toArray w := by
  have key : ∀ l : List α, (∀ x ∈ l, (f x).run P w = .ok (g x) w) → (l.mapM f).run P w = .ok (l.map g) w := by
    intro l
    induction l with
    | nil => intro _; rfl
    | cons x l ih =>
      intro h
      simp only [List.mapM_cons, Sem.run_bind, h x (by simp), Result.andThen_ok, ih fun y hy => h y (by simp [hy]), Sem.run_pure, List.map_cons]
  rw [Array.mapM_eq_mapM_toList, map_eq_pure_bind]
  simp only [Sem.run_bind, key _ h, Result.andThen_ok, Sem.run_pure]

theorem resOne_ok {E : List Nat} (h : Inv c own E st a w) {v : V} {value : Value} {t : Ty} {g : Fl} {k : St → t.den → Option ρ} {r : ρ} (hv : VOk w (NB c own E w) st a v value) (hk : resOne st v t g k = some r) :
    ∃ own' F st' x cs, k st' x = some r ∧ Inv c own' (F ++ E) st' a w ∧ Holds t value cs ∧ Rep w (NB c own' (F ++ E) w) t g x cs F ∧ (∀ b, NB c own E w b → NB c own' (F ++ E) w b) := by
  unfold resOne at hk
  split at hk
  · obtain ⟨x, hk, hh, hr⟩ := emptyOf_ok (w := w) (N := NB c own E w) (f := g) hk
    rw [hv.nilS]
    exact ⟨own, [], st, x, _, hk, by simpa using h, hh, by simpa using hr, fun b hb => by simpa using hb⟩
  · obtain ⟨x, hk, hh, hr⟩ := noneOf_ok (w := w) (N := NB c own E w) (f := g) hk
    rw [hv.nilP]
    exact ⟨own, [], st, x, _, hk, by simpa using h, hh, by simpa using hr, fun b hb => by simpa using hb⟩
  · obtain ⟨own', F, st', s, f, x, hk, hinv, hrep, _, hN⟩ := consume_ok h hv hk
    have hnd := hinv.ndE
    rw [List.nodup_append] at hnd
    split at hk
    · cases hk
    rename_i htup
    rcases hrep with ⟨cs, hh, hrep⟩ | ⟨u, _, _, rfl, _⟩
    · obtain ⟨y, F', hk', hsub, hre⟩ := coerceTy_ok hk hrep hnd.1
      have hsub2 : ∀ b ∈ F' ++ E, b ∈ F ++ E := fun b hb => by
        rcases List.mem_append.1 hb with hb | hb
        · exact List.mem_append_left _ (hsub.subset hb)
        · exact List.mem_append_right _ hb
      have hinv2 : Inv c own' (F' ++ E) st' a w := hinv.letgo (List.Sublist.append hsub (List.Sublist.refl _))
      refine ⟨own', F', st', y, cs, hk', hinv2, coerceTy_holds hk hh, hre _ (fun b hb => hb.hand hsub2) fun b hb hb' => ?_, fun b hb => (hN b hb).hand hsub2⟩
      refine NB.ofHand hinv (List.mem_append_left _ hb) ?_
      simp only [List.mem_append, not_or]
      exact ⟨hb', fun hE => hnd.2.2 b hb b hE rfl⟩
    · exfalso
      cases t <;> simp [coerceTy, Ty.isTup] at hk htup

def resVal (a : Act) : ResultVar → Value
  | .tmp t => a.tmps.getD t undef
  | .cell _ _ => undef

def ResultVar.isTmp : ResultVar → Bool
  | .tmp _ => true
  | _ => false

theorem resK_ok : ∀ {rs : List ResultVar} {own : Nat → List Nat} {E : List Nat} {st : St} {r : Ty} {g : Fl} {k : St → r.den → Option ρ} {z : ρ}, Inv c own E st a w → resK st rs r g k = some z →
    ∃ own' F st' y, k st' y = some z ∧ Inv c own' (F ++ E) st' a w ∧ RepT w (NB c own' (F ++ E) w) r g y (rs.map (resVal a)) F ∧ (∀ b, NB c own E w b → NB c own' (F ++ E) w b) ∧ ∀ x ∈ rs, ResultVar.isTmp x = true
  | [], own, E, st, r, g, k, z, h, hk => by
    cases r <;> simp only [resK, reduceCtorEq] at hk
    exact ⟨own, [], st, (), hk, by simpa using h, ⟨rfl, rfl⟩, fun b hb => by simpa using hb, by simp⟩
  | .cell _ _ :: rs, own, E, st, r, g, k, z, h, hk => by
    cases r <;> simp only [resK, reduceCtorEq] at hk
  | .tmp t :: rs, own, E, st, r, g, k, z, h, hk => by
    cases r <;> simp only [resK, reduceCtorEq] at hk
    rename_i ta tb
    obtain ⟨own1, F1, st1, x, cs, hk, h1, hh, hr, hN1⟩ := resOne_ok h (opd_ok h (.tmp t)) hk
    obtain ⟨own2, F2, st2, y, hk, h2, hrt, hN2, hall⟩ := resK_ok h1 hk
    have hsub : ∀ b ∈ F1 ++ F2 ++ E, b ∈ F2 ++ (F1 ++ E) := by intro b hb; simp at hb ⊢; rcases hb with hb | hb | hb <;> simp [hb]
    refine ⟨own2, F1 ++ F2, st2, (x, y), hk, h2.hand hsub ?_, ⟨_, _, F1, F2, rfl, rfl, ⟨cs, hh, ?_⟩, ?_⟩, fun b hb => (hN2 b (hN1 b hb)).hand hsub, ?_⟩
    · rw [List.append_assoc]
      exact (List.perm_append_comm_assoc F2 F1 E).nodup h2.ndE
    · exact hr.mono (fun b hb => ⟨(hN2 b hb).hand hsub, rfl⟩) fun _ _ => rfl
    · exact hrt.mono (fun b hb => ⟨hb.hand hsub, rfl⟩) fun _ _ => rfl
    · intro x hx
      rcases List.mem_cons.1 hx with rfl | hx
      · rfl
      · exact hall x hx

theorem run_results {fn : Func} {tmps : Array Value} (hall : ∀ x ∈ fn.results.toList, ResultVar.isTmp x = true) :
    (results fn tmps).run P w = .ok (match fn.results.toList.map (resVal { tmps := tmps, defers := [] }) with | [v] => v | vs => .tuple vs.toArray) w := by
  unfold results
  have h := run_mapM (P := P) (w := w) (as := fn.results) (g := resVal { tmps := tmps, defers := [] }) (f := fun
    | .tmp t => pure (tmps.getD t undef)
    | .cell a t => do loadVar t (← Go.asAddr (tmps.getD a undef))) (fun x hx => by
      have := hall x hx
      cases x with
      | tmp t => rfl
      | cell _ _ => cases this)
  rw [Sem.run_bind]
  refine (congrArg (fun z => Result.andThen z _) h).trans ?_
  simp only [Result.andThen_ok, Sem.run_pure]
  generalize fn.results.toList.map (resVal { tmps := tmps, defers := [] }) = vs
  match vs with
  | [] => rfl
  | [v] => rfl
  | v :: u :: vs => simp

/-- at the start: what each argument's slot owns -/
theorem args_slots {N : Nat → Prop} : ∀ {ty : Ty} {ms : List Nat} {fs : List Fl} {x : ty.den} {vs : List Value} {M : List Nat}, ArgsR w N ty ms fs x vs M →
    ∃ os : List (List Nat), os.flatten = M ∧ os.length = vs.length ∧ ms.length = vs.length ∧ (initV ty x ms fs).length = vs.length ∧ ∀ (N2 : Nat → Prop), (∀ b, N b → N2 b) → ∀ (i : Nat) v, vs[i]? = some v → ∀ (st : St) (a : Act), SlotOk w N2 st a (os.getD i []) v (St.get (initV ty x ms fs) i)
  | .unit, ms, fs, x, vs, M, h => by
    cases ms with
    | nil =>
      cases vs with
      | nil => simp only [ArgsR] at h; exact ⟨[], by simp [h], rfl, rfl, rfl, by simp⟩
      | cons v vs => simp [ArgsR] at h
    | cons m ms => cases m <;> simp [ArgsR] at h
  | .pair t b, ms, fs, x, vs, M, h => by
    cases ms with
    | nil => cases vs <;> simp [ArgsR] at h
    | cons m ms =>
      cases vs with
      | nil => match m with
        | 0 => simp [ArgsR] at h
        | 1 => cases fs <;> simp [ArgsR] at h
        | n + 2 => simp [ArgsR] at h
      | cons v vs => match m with
        | 0 =>
          simp only [ArgsR] at h
          obtain ⟨h1, h2⟩ := h
          obtain ⟨os, e1, e2, e3, e4, e5⟩ := args_slots h2
          refine ⟨[] :: os, by simpa using e1, by simp [e2], by simp [e3], by simp [initV, e4], fun N2 hN i v' hv st a => ?_⟩
          cases i with
          | zero =>
            simp only [List.getElem?_cons_zero, Option.some.injEq] at hv
            subst hv
            exact .inl (h1.mono (fun b hb => ⟨hN b hb, rfl⟩) fun _ _ => rfl)
          | succ i => exact e5 N2 hN i v' (by simpa using hv) st a
        | 1 =>
          cases fs with
          | nil => simp [ArgsR] at h
          | cons f fs =>
            simp only [ArgsR] at h
            obtain ⟨M1, M2, e0, h1, h2⟩ := h
            obtain ⟨os, e1, e2, e3, e4, e5⟩ := args_slots h2
            refine ⟨M1 :: os, by simp [e0, e1], by simp [e2], by simp [e3], by simp [initV, e4], fun N2 hN i v' hv st a => ?_⟩
            cases i with
            | zero =>
              simp only [List.getElem?_cons_zero, Option.some.injEq] at hv
              subst hv
              exact .inl (h1.mono (fun b hb => ⟨hN b hb, rfl⟩) fun _ _ => rfl)
            | succ i => exact e5 N2 hN i v' (by simpa using hv) st a
        | n + 2 => simp [ArgsR] at h
  | .int _, ms, fs, x, vs, M, h => by cases ms <;> simp [ArgsR] at h
  | .bool, ms, fs, x, vs, M, h => by cases ms <;> simp [ArgsR] at h
  | .str, ms, fs, x, vs, M, h => by cases ms <;> simp [ArgsR] at h
  | .any _, ms, fs, x, vs, M, h => by cases ms <;> simp [ArgsR] at h
  | .sl _, ms, fs, x, vs, M, h => by cases ms <;> simp [ArgsR] at h
  | .ptr _, ms, fs, x, vs, M, h => by cases ms <;> simp [ArgsR] at h
  | .opt _, ms, fs, x, vs, M, h => by cases ms <;> simp [ArgsR] at h
  | .tup _, ms, fs, x, vs, M, h => by cases ms <;> simp [ArgsR] at h

theorem getD_flat {os : List (List Nat)} {i b : Nat} (h : b ∈ os.getD i []) : b ∈ os.flatten := by
  rw [List.getD_eq_getElem?_getD] at h
  cases hi : os[i]? with
  | none => rw [hi] at h; cases h
  | some l =>
    rw [hi] at h
    exact List.mem_flatten.2 ⟨l, List.mem_of_getElem? hi, h⟩

theorem getD_nodup {os : List (List Nat)} (h : os.flatten.Nodup) : (∀ i, (os.getD i []).Nodup) ∧ ∀ i j b, b ∈ os.getD i [] → b ∈ os.getD j [] → i = j := by
  induction os with
  | nil => simp
  | cons l os ih =>
    rw [List.flatten_cons, List.nodup_append] at h
    obtain ⟨i1, i2⟩ := ih h.2.1
    refine ⟨fun i => ?_, fun i j b hb hb' => ?_⟩
    · cases i with
      | zero => exact h.1
      | succ i => exact i1 i
    · cases i with
      | zero =>
        cases j with
        | zero => rfl
        | succ j => exact absurd rfl (h.2.2 b hb b (getD_flat hb'))
      | succ i =>
        cases j with
        | zero => exact absurd rfl (h.2.2 b hb' b (getD_flat hb))
        | succ j => rw [i2 i j b hb hb']

theorem mutsK_zero : ∀ {ms : List Nat} {i : Nat} {fs : List Fl} {m : Ty} {k : m.den → Option ρ} {r : ρ} {N : Nat → Prop} {vs : List Value}, ms.any (· != 0) = false → ms.length = vs.length → mutsK st i ms fs m k = some r → ∃ y, k y = some r ∧ MutsR w N m ms fs y vs []
  | [], i, fs, m, k, r, N, vs, _, hl, h => by
    cases m <;> simp only [mutsK, reduceCtorEq] at h
    have : vs = [] := List.eq_nil_of_length_eq_zero (by simpa using hl.symm)
    subst this
    exact ⟨(), h, rfl⟩
  | n :: ms, i, fs, m, k, r, N, vs, hm, hl, h => by
    simp only [List.any_cons, Bool.or_eq_false_iff, bne_eq_false_iff_eq] at hm
    obtain ⟨rfl, hm⟩ := hm
    simp only [mutsK] at h
    cases vs with
    | nil => simp at hl
    | cons v vs =>
      obtain ⟨y, h1, h2⟩ := mutsK_zero (N := N) (vs := vs) hm (by simpa using hl) h
      exact ⟨y, h1, by cases m <;> simpa [MutsR] using h2⟩

theorem finish_ok {S : Sig} {rs : List ResultVar} {e : Ex} {r : S.r.den × S.m.den} (h : Inv c own [] st a w) (hk : finish S rs e st = some r) :
    ∃ own' F st', Inv c own' F st' a w ∧ RepV w (NB c own' F w) S.r S.rf r.1 (match rs.map (resVal a) with | [v] => v | vs => .tuple vs.toArray) F ∧ (∀ x ∈ rs, ResultVar.isTmp x = true) ∧
      ∀ (N : Nat → Prop) (vs : List Value), S.md.length = vs.length → MutsR w N S.m S.md S.mf r.2 vs [] := by
  unfold finish at hk
  split at hk
  · cases hk
  split at hk
  · cases hk
  rename_i hmd
  have hmd : S.md.any (· != 0) = false := by simpa using hmd
  revert r
  generalize S.r = R
  intro r
  have one : (match rs with
    | [_] => resK st rs (.pair R .unit) (.p S.rf .i) fun st' x => mutsK st' 0 S.md S.mf S.m fun y => some (x.1, y)
    | _ => none) = some r → ∃ own' F st', Inv c own' F st' a w ∧ RepV w (NB c own' F w) R S.rf r.1 (match rs.map (resVal a) with | [v] => v | vs => .tuple vs.toArray) F ∧ (∀ x ∈ rs, ResultVar.isTmp x = true) ∧
      ∀ (N : Nat → Prop) (vs : List Value), S.md.length = vs.length → MutsR w N S.m S.md S.mf r.2 vs [] := by
    intro hk
    split at hk
    · rename_i x
      obtain ⟨own', F, st', y, hk, hinv, hrt, hN, hall⟩ := resK_ok h hk
      rw [List.append_nil] at hinv hrt
      obtain ⟨v, vs', F1, F2, e1, e2, h3, h4, h5⟩ := hrt
      subst h5
      rw [List.append_nil] at e2
      subst e2
      simp only [List.map_cons, List.map_nil, List.cons.injEq] at e1
      obtain ⟨z, hk', _⟩ := mutsK_zero (w := w) (N := fun _ => False) (vs := List.replicate S.md.length undef) hmd (by simp) hk
      simp only [Option.some.injEq] at hk'
      refine ⟨own', F, st', hinv, ?_, hall, fun N vs hl => ?_⟩
      · simp only [List.map_cons, List.map_nil]
        rw [e1.1, ← hk']
        exact .inl h3
      · obtain ⟨z', hk2, hm2⟩ := mutsK_zero (w := w) (N := N) (vs := vs) hmd hl hk
        simp only [Option.some.injEq] at hk2
        rw [← hk2]; exact hm2
    · cases hk
  intro hk
  cases R with
  | tup r' =>
    simp only [finR] at hk
    split at hk
    · cases hk
    rename_i hlen
    obtain ⟨own', F, st', y, hk, hinv, hrt, hN, hall⟩ := resK_ok h hk
    obtain ⟨z, hk', _⟩ := mutsK_zero (w := w) (N := fun _ => False) (vs := List.replicate S.md.length undef) hmd (by simp) hk
    simp only [Option.some.injEq] at hk'
    rw [List.append_nil] at hinv hrt
    refine ⟨own', F, st', hinv, .inr ⟨r', y, (rs.map (resVal a)).toArray, rfl, by rw [← hk'], ?_, by simpa using hrt⟩, hall, fun N vs hl => ?_⟩
    · cases rs with
      | nil => rfl
      | cons x rs =>
        cases rs with
        | nil => exact absurd rfl hlen
        | cons y rs => rfl
    · obtain ⟨z', hk2, hm2⟩ := mutsK_zero (w := w) (N := N) (vs := vs) hmd hl hk
      simp only [Option.some.injEq] at hk2
      rw [← hk2]; exact hm2
  | _ => simp only [finR] at hk; exact one hk

theorem good_of_run {f : FuncId} {fn : Func} {S : Sig} (hf : P.funcs[f]? = some fn) (hn : S.md.length ≤ fn.ntmps)
    (h : ∀ x r, S.f x = some r → ∃ A n, CfgOk P A ∧ SigOk P A ∧ runF A n fn S x = some r) : Good P f S := by
  intro x r hx w N args M hargs hnd hM hN
  obtain ⟨A, n, hA, hS, hrun⟩ := h x r hx
  unfold runF at hrun
  split at hrun
  case h_2 => cases hrun
  rename_i code hb
  obtain ⟨os, e1, e2, e3, e4, e5⟩ := args_slots hargs
  rw [← e1] at hnd
  obtain ⟨nd1, nd2⟩ := getD_nodup hnd
  have hsz : args.size = S.md.length := by rw [e3]; simp
  refine calls_of_wp hf hb ?_
  have hinv : Inv ⟨w, M, fun b => N b ∨ b ∈ M, fun b hb => .inr hb⟩ (fun i => os.getD i []) [] (initSt S x fn.ntmps) { tmps := args ++ Array.replicate (fn.ntmps - args.size) undef, defers := [] } w := by
    have hown : ∀ i b, b ∈ os.getD i [] → b ∈ M := fun i b hb => by rw [← e1]; exact getD_flat hb
    refine ⟨?_, rfl, fun i => ?_, nd1, by simp, nd2, by simp, by simp, fun i b hb => .inl (hown i b hb), by simp, fun _ _ _ => rfl, Nat.le_refl _, rfl, rfl, rfl, fun _ => rfl⟩
    · simp only [initSt, Array.size_append, Array.size_replicate, List.length_append, List.length_replicate, e4, hsz]
      rw [← e3]
    · by_cases hi : i < args.toList.length
      · have hv : args.toList[i]? = some args.toList[i] := List.getElem?_eq_getElem hi
        have hat : Act.at_ { tmps := args ++ Array.replicate (fn.ntmps - args.size) undef, defers := [] } i = args.toList[i] := by
          simp only [Array.length_toList] at hi
          simp [Act.at_, Array.getD_eq_getD_getElem?, Array.getElem?_append, hi]
        have hget : St.get (initSt S x fn.ntmps) i = St.get (initV S.a x S.md S.mf) i := by
          simp only [St.get, initSt, List.getD_eq_getElem?_getD]
          rw [List.getElem?_append_left (by rw [e4]; exact hi)]
        rw [hat, hget]
        refine e5 _ (fun b hb => ⟨hN b hb, fun i hi => (hM b (hown i b hi)).1 hb, by simp, fun _ => .inl hb⟩) i _ hv _ _
      · have hget : St.get (initSt S x fn.ntmps) i = .u := by
          simp only [St.get, initSt, List.getD_eq_getElem?_getD]
          rw [List.getElem?_append_right (by rw [e4]; omega), List.getElem?_replicate]
          split <;> rfl
        rw [hget]
        show os.getD i [] = []
        rw [List.getD_eq_getElem?_getD, List.getElem?_eq_none (by omega)]
        rfl
  refine run_ok hA hS hinv hrun fun e own' st' a' w' hk h' => ?_
  obtain ⟨own2, F, st2, h2, hrep, hall, hmut⟩ := finish_ok h' hk
  have hres := run_results (P := P) (w := w') (fn := fn) (tmps := a'.tmps) hall
  have ha : ({ tmps := a'.tmps, defers := [] } : Act) = a' := by
    cases a' with
    | mk t d => simp only [Act.mk.injEq, true_and]; exact h'.defers.symm
  rw [ha] at hres
  have hfin : ∀ N', (∀ b, NB ⟨w, M, fun b => N b ∨ b ∈ M, fun b hb => .inr hb⟩ own2 F w' b → N' b) → RepV w' N' S.r S.rf r.1 (match fn.results.toList.map (resVal a') with | [v] => v | vs => .tuple vs.toArray) F := fun N' hN' => hrep.mono (fun b hb => ⟨hN' b hb, rfl⟩) fun _ _ => rfl
  have key : Left S w N args.toList M r (match fn.results.toList.map (resVal a') with | [v] => v | vs => .tuple vs.toArray) w' := by
    refine ⟨F, [], by simpa using h2.ndE, hfin _ fun b hb => ⟨hb.1, hb.2.2.1, by simp, hb.2.2.2⟩, hmut _ _ e3, fun b hb => h2.bndE b (by simpa using hb), fun b hb => h2.ltE b (by simpa using hb), h2.frame, h2.grow, h2.os, h2.tape, h2.output, h2.frozen⟩
  cases e with
  | exit i => simp [finish] at hk
  | normal => exact ⟨h'.defers, _, hres, key⟩
  | ret => exact ⟨h'.defers, _, hres, key⟩

end
end Go.Gx
