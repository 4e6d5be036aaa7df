import Derived.Test.YtpomjejencfiiaaGxMem3
set_option linter.unusedSimpArgs false
set_option linter.unusedVariables false
namespace Go.Gx
open Go

section
variable {P : Program} {A : Cfg} {c : Ctx} {own : Nat → List Nat} {st : St} {a : Act} {w : World} {ρ : Type}

theorem Fl.le_i (f : Fl) : f.le .i = true := by cases f <;> rfl

/-- as plain data: the flags do not matter -/
theorem coerceTy_flag : ∀ {s : Ty} {f f' : Fl} {x : s.den} {t : Ty} {k : t.den → Option ρ}, coerceTy s f x t .i k = coerceTy s f' x t .i k := by
  intro s
  induction s with
  | ptr s _ => intro f f' x t k; cases t <;> simp [coerceTy, Fl.le_i]
  | pair a b iha ihb =>
    intro f f' x t k
    cases t <;> simp only [coerceTy, Fl.le_i]
    rename_i c d
    show coerceTy a f.l x.1 c .i _ = coerceTy a f'.l x.1 c .i _
    rw [iha (f := f.l) (f' := f'.l)]
    congr 1
    funext y
    exact ihb
  | _ => intro f f' x t k; simp [coerceTy, Fl.le_i]

/-- plain data that an operand names, of a type: what its slot owns may lie in it -/
theorem fetchAs_ok {E : List Nat} (h : Inv c own E st a w) {v : V} {value : Value} {t : Ty} {k : t.den → Option ρ} {r : ρ} (hv : VOk w (NB c own E w) st a v value) (hk : fetchAs st v t k = some r) :
    ∃ x cs, k x = some r ∧ ∀ N2 : Nat → Prop, (∀ b, NB c own E w b → N2 b) → (∀ s, v.names s → ∀ b ∈ own s, N2 b) → (Holds t value cs ∧ Rep w N2 t .i x cs []) := by
  unfold fetchAs at hk
  split at hk
  · obtain ⟨x, hk, hh, hr⟩ := emptyOf_ok (w := w) (N := fun _ => False) (f := .i) hk
    rw [hv.nilS]
    exact ⟨x, _, hk, fun N2 _ _ => ⟨hh, hr.mono (fun _ hb => hb.elim) fun _ _ => rfl⟩⟩
  · obtain ⟨x, hk, hh, hr⟩ := noneOf_ok (w := w) (N := fun _ => False) (f := .i) hk
    rw [hv.nilP]
    exact ⟨x, _, hk, fun N2 _ _ => ⟨hh, hr.mono (fun _ hb => hb.elim) fun _ _ => rfl⟩⟩
  · obtain ⟨s, f, x, hk, hf⟩ := fetch_ok h hv hk
    rcases hf with ⟨u, rfl⟩ | ⟨cs, F0, hh, hr, hF⟩
    · simp [Ty.isTup] at hk
    · split at hk
      · cases hk
      rw [coerceTy_flag (f' := .i)] at hk
      have hp : ∀ N2 : Nat → Prop, (∀ b, NB c own E w b → N2 b) → (∀ s, v.names s → ∀ b ∈ own s, N2 b) → Rep w N2 s .i x cs [] := by
        intro N2 h1 h2
        refine hr.toPlain h1 fun b hb => ?_
        rcases hF with rfl | ⟨s', hs', hF⟩
        · cases hb
        · exact h2 s' hs' b (hF b hb)
      obtain ⟨y, F', hk', hsub, hre⟩ := coerceTy_ok hk (hp (fun b => NB c own E w b ∨ ∃ s, v.names s ∧ b ∈ own s) (fun _ h => .inl h) fun s hs b hb => .inr ⟨s, hs, hb⟩) (by simp)
      obtain rfl : F' = [] := List.sublist_nil.1 hsub
      refine ⟨y, cs, hk', fun N2 h1 h2 => ⟨coerceTy_holds hk hh, hre N2 (fun b hb => ?_) (by simp)⟩⟩
      rcases hb with hb | ⟨s', hs', hb⟩
      · exact h1 b hb
      · exact h2 s' hs' b hb

/-- the arguments of a call: what is read, and what may be written -/
def ArgsR (w : World) (N : Nat → Prop) : (m : Ty) → List Nat → List Fl → m.den → List Value → List Nat → Prop
  | .unit, [], _, _, [], M => M = []
  | .pair t b, 0 :: ms, fs, x, v :: vs, M => RepS w N t .i x.1 v [] ∧ ArgsR w N b ms fs x.2 vs M
  | .pair t b, 1 :: ms, f :: fs, x, v :: vs, M => ∃ M1 M2, M = M1 ++ M2 ∧ RepS w N t f x.1 v M1 ∧ ArgsR w N b ms fs x.2 vs M2
  | _, _, _, _, _, _ => False

/-- what the call has left in what it may write -/
def MutsR (w : World) (N : Nat → Prop) : (m : Ty) → List Nat → List Fl → m.den → List Value → List Nat → Prop
  | m, 0 :: ms, fs, y, _ :: vs, M => MutsR w N m ms fs y vs M
  | .unit, [], _, _, [], M => M = []
  | .pair t b, 1 :: ms, f :: fs, y, v :: vs, M => ∃ M1 M2, M = M1 ++ M2 ∧ RepS w N t f y.1 v M1 ∧ MutsR w N b ms fs y.2 vs M2
  | _, _, _, _, _, _ => False

def Left (S : Sig) (w : World) (N : Nat → Prop) (args : List Value) (M : List Nat) (r : S.r.den × S.m.den) (v : Value) (w' : World) : Prop :=
  ∃ F M', (F ++ M').Nodup ∧ RepV w' (fun b => b < w'.heap.size ∧ b ∉ F ∧ b ∉ M' ∧ (b < w.heap.size → N b ∨ b ∈ M)) S.r S.rf r.1 v F ∧
    MutsR w' (fun b => b < w'.heap.size ∧ b ∉ F ∧ b ∉ M' ∧ (b < w.heap.size → N b ∨ b ∈ M)) S.m S.md S.mf r.2 args M' ∧ (∀ b ∈ F ++ M', b ∈ M ∨ w.heap.size ≤ b) ∧ (∀ b ∈ F ++ M', b < w'.heap.size) ∧
    (∀ b, b < w.heap.size → b ∉ M → w'.heap[b]? = w.heap[b]?) ∧ w.heap.size ≤ w'.heap.size ∧ w'.os = w.os ∧ w'.tape = w.tape ∧ w'.output = w.output ∧ ∀ a, w'.frozen? a = w.frozen? a

/-- the function does what its contract says -/
def Good (P : Program) (f : FuncId) (S : Sig) : Prop :=
  ∀ x r, S.f x = some r → ∀ (w : World) (N : Nat → Prop) (args : Array Value) (M : List Nat), ArgsR w N S.a S.md S.mf x args.toList M → M.Nodup → (∀ b ∈ M, ¬ N b ∧ b < w.heap.size) → (∀ b, N b → b < w.heap.size) →
    Calls P f args w fun e w' => match e with
      | .returned v => Left S w N args.toList M r v w'
      | _ => False

theorem Rep.shut {N N2 : Nat → Prop} : ∀ {t : Ty} {f : Fl} {x : t.den} {cs : List Value} {F : List Nat}, closed t f = true → Rep w N t f x cs F → Rep w N2 t f x cs F
  | .int _, _, _, _, _, _, h => h
  | .bool, _, _, _, _, _, h => h
  | .str, _, _, _, _, _, h => h
  | .unit, _, _, _, _, _, h => h
  | .any _, _, _, _, _, _, h => h
  | .tup _, _, _, _, _, _, h => h.elim
  | .opt _, _, _, _, _, hc, _ => by simp [closed] at hc
  | .sl t, .o g, x, cs, F, hc, h => by
    simp only [closed, Fl.isO, Bool.true_and] at hc
    simp only [Rep] at h ⊢
    rcases h with h | ⟨b, cap, arr, e, G, h1, h2, h3, h4, h5, h6, h7⟩
    · exact .inl h
    · exact .inr ⟨b, cap, arr, e, G, h1, h2, h3, h4, h5, h6, h7.mono fun x ds G' _ hr => Rep.shut hc hr⟩
  | .sl t, .i, _, _, _, hc, _ => by simp [closed, Fl.isO] at hc
  | .sl t, .p _ _, _, _, _, hc, _ => by simp [closed, Fl.isO] at hc
  | .ptr t, .o g, x, cs, F, hc, h => by
    simp only [closed, Fl.isO, Bool.true_and] at hc
    simp only [Rep] at h ⊢
    obtain ⟨b, arr, e, G, h1, h2, h3, h4⟩ := h
    exact ⟨b, arr, e, G, h1, h2, h3, Rep.shut hc h4⟩
  | .ptr t, .i, _, _, _, hc, _ => by simp [closed, Fl.isO] at hc
  | .ptr t, .p _ _, _, _, _, hc, _ => by simp [closed, Fl.isO] at hc
  | .pair a b, f, x, cs, F, hc, h => by
    simp only [closed, Bool.and_eq_true] at hc
    simp only [Rep] at h ⊢
    obtain ⟨F1, F2, e, hl, h1, h2⟩ := h
    exact ⟨F1, F2, e, hl, Rep.shut hc.1 h1, Rep.shut hc.2 h2⟩

theorem RepT.shut {N N2 : Nat → Prop} : ∀ {u : Ty} {f : Fl} {x : u.den} {vs : List Value} {F : List Nat}, closed u f = true → RepT w N u f x vs F → RepT w N2 u f x vs F
  | .unit, _, _, _, _, _, h => h
  | .pair a b, f, _, _, _, hc, ⟨v, vs', F1, F2, h1, h2, ⟨cs, hh, h3⟩, h4⟩ => by
    simp only [closed, Bool.and_eq_true] at hc
    exact ⟨v, vs', F1, F2, h1, h2, ⟨cs, hh, h3.shut hc.1⟩, RepT.shut hc.2 h4⟩
  | .int _, _, _, _, _, _, h => h.elim
  | .bool, _, _, _, _, _, h => h.elim
  | .str, _, _, _, _, _, h => h.elim
  | .any _, _, _, _, _, _, h => h.elim
  | .sl _, _, _, _, _, _, h => h.elim
  | .ptr _, _, _, _, _, _, h => h.elim
  | .opt _, _, _, _, _, _, h => h.elim
  | .tup _, _, _, _, _, _, h => h.elim

theorem RepV.shut {N N2 : Nat → Prop} {t : Ty} {f : Fl} {x : t.den} {v : Value} {F : List Nat} (hc : closed t f = true) (h : RepV w N t f x v F) : RepV w N2 t f x v F := by
  rcases h with ⟨cs, h0, h⟩ | ⟨u, y, vs, h1, h2, h3, h4⟩
  · exact .inl ⟨cs, h0, h.shut hc⟩
  · subst h1
    exact .inr ⟨u, y, vs, rfl, h2, h3, h4.shut hc⟩

/-- which slots do the operands' aliases name? -/
def namedBy (vs : List V) (b : Nat) (own : Nat → List Nat) : Prop := ∃ v ∈ vs, ∃ s, v.names s ∧ b ∈ own s

theorem argsK_ok {E : List Nat} (h : Inv c own E st a w) : ∀ {ty : Ty} {ms : List Nat} {fs : List Fl} {os : List Operand} {k : ty.den → Option ρ} {r : ρ}, ms.any (· != 0) = false →
    argsK st ty ms fs (os.map (opd st)) k = some r →
    ∃ x, k x = some r ∧ ∀ N2 : Nat → Prop, (∀ b, NB c own E w b → N2 b) → (∀ b, namedBy (os.map (opd st)) b own → N2 b) → ArgsR w N2 ty ms fs x (os.map a.eval) [] := by
  intro ty ms
  induction ms generalizing ty with
  | nil =>
    intro fs os k r _ hk
    cases ty <;> cases os <;> simp only [argsK, List.map_nil, List.map_cons, reduceCtorEq] at hk
    exact ⟨_, hk, fun _ _ _ => rfl⟩
  | cons m ms ih =>
    intro fs os k r hm hk
    simp only [List.any_cons, Bool.or_eq_false_iff, bne_eq_false_iff_eq] at hm
    obtain ⟨rfl, hm⟩ := hm
    cases ty <;> cases os <;> simp only [argsK, List.map_nil, List.map_cons, reduceCtorEq] at hk
    rename_i t b o os
    obtain ⟨x, cs, hk, hx⟩ := fetchAs_ok h (opd_ok h o) hk
    obtain ⟨y, hk, hy⟩ := ih hm hk
    refine ⟨(x, y), hk, fun N2 h1 h2 => ⟨⟨cs, hx N2 h1 fun s hs b hb => h2 b ⟨_, List.mem_cons_self, s, hs, hb⟩⟩, hy N2 h1 fun b ⟨v', hv', s, hs, hb⟩ => h2 b ⟨v', List.mem_cons_of_mem _ hv', s, hs, hb⟩⟩⟩

/-- what a slot owns may be named by plain data from now on -/
theorem freeze_ok {E : List Nat} (h : Inv c own E st a w) (s : Nat) :
    ∃ own', Inv c own' E (freeze st s) a w ∧ (∀ b, NB c own E w b → NB c own' E w b) ∧ (∀ b ∈ own s, NB c own' E w b) ∧ (∀ i b, b ∈ own' i → b ∈ own i) ∧ (∀ i, i ≠ s → own' i = own i) := by
  unfold freeze
  split
  case h_2 =>
    rename_i hno
    have hs := h.slot s
    have h0 : own s = [] := by
      cases hv : st.get s with
      | val t f x => exact absurd hv (hno _ _ _)
      | u => rw [hv] at hs; exact hs
      | nilS => rw [hv] at hs; exact hs.1
      | nilP => rw [hv] at hs; exact hs.1
      | ref _ _ _ => rw [hv] at hs; exact hs.1
      | win _ _ _ _ => rw [hv] at hs; exact hs.elim
    refine ⟨own, h, fun _ h => h, ?_, fun _ _ h => h, fun _ _ => rfl⟩
    intro b hb; rw [h0] at hb; cases hb
  case h_1 t f x hsv =>
    have hs : s < st.length := by
      rcases Nat.lt_or_ge s st.length with hlt | hge
      · exact hlt
      · rw [get_ge st s hge] at hsv; cases hsv
    have hget : ∀ i, St.get ((st.map (V.plain s t x)).set s (.val t .i x)) i = if i = s then .val t .i x else V.plain s t x (st.get i) := by
      intro i
      rw [get_set, get_map _ _ rfl]
      simp [hs]
    have hN : ∀ b, NB c own E w b → NB c (fun i => if i = s then [] else own i) E w b := by
      intro b hb
      refine ⟨hb.1, fun i => ?_, hb.2.2.1, hb.2.2.2⟩
      show b ∉ (if i = s then [] else own i)
      split
      · simp
      · exact hb.2.1 i
    have hown : ∀ b ∈ own s, NB c (fun i => if i = s then [] else own i) E w b := by
      intro b hb
      refine ⟨h.lt s b hb, fun i => ?_, h.djE s b hb, fun hlt => ?_⟩
      · show b ∉ (if i = s then [] else own i)
        split
        · simp
        · rename_i hne
          exact fun hb' => hne (h.dj i s b hb' hb)
      · rcases h.bnd s b hb with h0 | h0
        · exact c.mn b h0
        · omega
    have hsl := h.slot s
    rw [hsv] at hsl
    have hpl : RepV w (NB c (fun i => if i = s then [] else own i) E w) t .i x (Act.at_ a s) [] := RepV.toPlain hN hsl hown
    refine ⟨fun i => if i = s then [] else own i, ⟨?_, h.defers, fun i => ?_, fun i => ?_, h.ndE, fun i j b hb hb' => ?_, fun i b hb => ?_, h.ltE, fun i b hb => ?_, h.bndE, h.frame, h.grow, h.os, h.tape, h.output, h.frozen⟩, hN, hown, fun i b hb => ?_, fun i hi => ?_⟩
    · simpa using h.size
    · rw [hget]
      by_cases hi : i = s
      · subst hi; simp only [if_true]; exact hpl
      · simp only [hi, if_false]
        have hsi := h.slot i
        cases hv : st.get i with
        | val t' f' x' => rw [hv] at hsi; exact RepV.mono (fun b hb => ⟨hN b hb, rfl⟩) hsi fun b _ => rfl
        | u => rw [hv] at hsi; exact hsi
        | nilS => rw [hv] at hsi; exact hsi
        | nilP => rw [hv] at hsi; exact hsi
        | win _ _ _ _ => rw [hv] at hsi; exact hsi.elim
        | ref s' p k =>
          rw [hv] at hsi
          simp only [V.plain]
          by_cases hs' : s' = s
          · subst hs'
            simp only [if_true]
            split
            · obtain ⟨h0, hr⟩ := hsi
              rw [h0]
              show RepV w _ t .i x (Act.at_ a i) []
              obtain ⟨_, ⟨_, _, e⟩ | ⟨t1, f1, x1, cs, t', cs', l', e1, e5, e2, e3, e4⟩⟩ := hr
              · rw [e]; exact hpl
              · rw [hsv] at e1
                cases e1
                simp only [At] at e3
                obtain ⟨rfl, rfl, rfl⟩ := e3
                rcases hpl with ⟨cs0, g1, g2⟩ | ⟨u, _, _, g1, _⟩
                · obtain rfl := Holds.uniq e5.1 g1 e2
                  exact .inl ⟨cs0, e4, g2⟩
                · subst g1; exact e2.elim
            · exact hsi.1
          · simp only [hs', if_false]
            refine ⟨hsi.1, hsi.2.congr ?_ rfl⟩
            rw [hget, if_neg hs']
            have := hsi.2.1
            cases hv' : st.get s' <;> rw [hv'] at this <;> simp_all [V.isOwner, V.plain]
    · try simp only
      split
      · simp
      · exact h.nd i
    · try simp only at hb hb'
      split at hb
      · cases hb
      · split at hb'
        · cases hb'
        · exact h.dj i j b hb hb'
    · try simp only at hb
      split at hb
      · cases hb
      · exact h.djE i b hb
    · try simp only at hb
      split at hb
      · cases hb
      · exact h.bnd i b hb
    · try simp only at hb
      split at hb
      · cases hb
      · exact hb
    · simp [hi]

theorem freezeAll_ok {E : List Nat} : ∀ {vs : List V} {own : Nat → List Nat} {st : St}, Inv c own E st a w →
    ∃ own', Inv c own' E (freezeAll st vs) a w ∧ (∀ b, NB c own E w b → NB c own' E w b) ∧ (∀ b, namedBy vs b own → NB c own' E w b)
  | [], own, st, h => ⟨own, h, fun _ h => h, fun b ⟨v, hv, _⟩ => by cases hv⟩
  | .ref s p k :: vs, own, st, h => by
    obtain ⟨own1, h1, hN1, hs1, hsub, hoth⟩ := freeze_ok h s
    obtain ⟨own2, h2, hN2, hs2⟩ := freezeAll_ok (vs := vs) h1
    refine ⟨own2, h2, fun b hb => hN2 b (hN1 b hb), fun b ⟨v, hv, s', hs', hb⟩ => ?_⟩
    rcases List.mem_cons.1 hv with rfl | hv
    · simp only [V.names] at hs'
      subst hs'
      exact hN2 b (hs1 b hb)
    · by_cases e : s' = s
      · subst e; exact hN2 b (hs1 b hb)
      · exact hs2 b ⟨v, hv, s', hs', by rw [hoth s' e]; exact hb⟩
  | .win s l u t :: vs, own, st, h => by
    obtain ⟨own1, h1, hN1, hs1, hsub, hoth⟩ := freeze_ok h s
    obtain ⟨own2, h2, hN2, hs2⟩ := freezeAll_ok (vs := vs) h1
    refine ⟨own2, h2, fun b hb => hN2 b (hN1 b hb), fun b ⟨v, hv, s', hs', hb⟩ => ?_⟩
    rcases List.mem_cons.1 hv with rfl | hv
    · exact hs'.elim
    · by_cases e : s' = s
      · subst e; exact hN2 b (hs1 b hb)
      · exact hs2 b ⟨v, hv, s', hs', by rw [hoth s' e]; exact hb⟩
  | .u :: vs, own, st, h => by
    obtain ⟨own2, h2, hN2, hs2⟩ := freezeAll_ok (vs := vs) h
    refine ⟨own2, h2, hN2, fun b ⟨v, hv, s', hs', hb⟩ => ?_⟩
    rcases List.mem_cons.1 hv with rfl | hv
    · exact hs'.elim
    · exact hs2 b ⟨v, hv, s', hs', hb⟩
  | .val _ _ _ :: vs, own, st, h => by
    obtain ⟨own2, h2, hN2, hs2⟩ := freezeAll_ok (vs := vs) h
    refine ⟨own2, h2, hN2, fun b ⟨v, hv, s', hs', hb⟩ => ?_⟩
    rcases List.mem_cons.1 hv with rfl | hv
    · exact hs'.elim
    · exact hs2 b ⟨v, hv, s', hs', hb⟩
  | .nilS :: vs, own, st, h => by
    obtain ⟨own2, h2, hN2, hs2⟩ := freezeAll_ok (vs := vs) h
    refine ⟨own2, h2, hN2, fun b ⟨v, hv, s', hs', hb⟩ => ?_⟩
    rcases List.mem_cons.1 hv with rfl | hv
    · exact hs'.elim
    · exact hs2 b ⟨v, hv, s', hs', hb⟩
  | .nilP :: vs, own, st, h => by
    obtain ⟨own2, h2, hN2, hs2⟩ := freezeAll_ok (vs := vs) h
    refine ⟨own2, h2, hN2, fun b ⟨v, hv, s', hs', hb⟩ => ?_⟩
    rcases List.mem_cons.1 hv with rfl | hv
    · exact hs'.elim
    · exact hs2 b ⟨v, hv, s', hs', hb⟩

structure SigOk (P : Program) (A : Cfg) : Prop where
  sig : ∀ f S, A.sig f = some S → (∃ fn, P.funcs[f]? = some fn ∧ fn.body.isNone = false ∧ (fn.name == "runtime.NumGoroutine") = false) ∧ Good P f S

theorem outsK_zero : ∀ {ms : List Nat} {m : Ty} {y : m.den} {fs : List Fl} {vs : List V} {k : St → Option ρ} {r : ρ}, ms.any (· != 0) = false → outsK m y ms fs vs st k = some r → k st = some r
  | [], m, y, fs, vs, k, r, _, h => by
    cases m <;> cases fs <;> cases vs <;> simp only [outsK, reduceCtorEq] at h
    exact h
  | n :: ms, m, y, fs, vs, k, r, hm, h => by
    simp only [List.any_cons, Bool.or_eq_false_iff, bne_eq_false_iff_eq] at hm
    obtain ⟨rfl, hm⟩ := hm
    cases vs with
    | nil => cases m <;> simp [outsK] at h
    | cons v vs =>
      have : outsK m y ms fs vs st k = some r := by cases m <;> simpa only [outsK] using h
      exact outsK_zero hm this

theorem call_ok (hS : SigOk P A) {o : Oper} {cc : Call} {f : FuncId} {k : St → Option ρ} {r : ρ} (ho : o.op = .call cc) (hc : cc.callee = .value (.func f)) (h : Inv c own [] st a w)
    (hk : callK A f (cc.args.toList.map (opd st)) o.dst st k = some r) : OpGoal P c o k r a w := by
  unfold callK at hk
  split at hk
  case h_2 => cases hk
  case h_1 S hsig =>
  obtain ⟨⟨fn, hfn, hbody, hname⟩, hgood⟩ := hS.sig f S hsig
  split at hk
  · cases hk
  rename_i hmd
  have hmd : S.md.any (· != 0) = false := by simpa using hmd
  obtain ⟨x, hk, hargs⟩ := argsK_ok h hmd hk
  cases hr : S.f x with
  | none => rw [hr] at hk; cases hk
  | some rr =>
    rw [hr] at hk
    simp only [Option.bind_some] at hk
    have hk := outsK_zero hmd hk
    let N : Nat → Prop := fun b => NB c own [] w b ∨ namedBy (cc.args.toList.map (opd st)) b own
    have hNlt : ∀ b, N b → b < w.heap.size := by
      rintro b (hb | ⟨v, _, s, _, hb⟩)
      · exact hb.1
      · exact h.lt s b hb
    have hcall := hgood x rr hr w N (cc.args.map a.eval) [] (by rw [Array.toList_map]; exact hargs N (fun _ h => .inl h) fun _ h => .inr h) (by simp) (by simp) hNlt
    have hex : (execOp a.eval o).run P w = .ok (.enter f (cc.args.map a.eval)) w := by
      unfold execOp
      simp only [ho, resolve, hc, Act.eval, Deferred.ofValue, Sem.run_bind, Sem.run_pure, Result.andThen_ok, invoke, callFunc, run_program, hfn, hbody, hname]
      simp
    intro K Q hK
    unfold Oper.wp
    rw [hex, Oper.upon_enter]
    refine hcall.mono fun e w' he => ?_
    cases e with
    | panicked chain => exact he.elim
    | outgrown => exact he.elim
    | returned v =>
      simp only at he ⊢
      obtain ⟨F, M', hnd, hrep, hmut, hfresh, hlt, hframe, hgrow, e1, e2, e3, hfz⟩ := he
      rw [List.nodup_append] at hnd
      have hF : ∀ b ∈ F, w.heap.size ≤ b := fun b hb => by
        rcases hfresh b (List.mem_append_left _ hb) with h' | h'
        · cases h'
        · exact h'
      have hinv := h.grown (w' := w') (E' := F) (fun b hb _ => hframe b hb (by simp)) hgrow e1 e2 e3 hfz hnd.1 fun b hb => ⟨hF b hb, hlt b (List.mem_append_left _ hb)⟩
      rw [List.append_nil] at hinv
      have fin : ∀ own2 st2, Inv c own2 F st2 a w' → RepV w' (NB c own2 F w') S.r S.rf rr.1 v F → k (st2.putO o.dst (.val S.r S.rf rr.1)) = some r → K (a.put o.dst v) w' := by
        intro own2 st2 h2 hv hk
        obtain ⟨own', h'⟩ := Inv.putO (v := .val S.r S.rf rr.1) (F := F) (E := []) o.dst (by simpa using h2) (by rw [List.append_nil]; exact hv)
        exact hK _ _ _ _ hk h'
      split at hk
      · rename_i hcl
        exact fin _ _ hinv (hrep.shut hcl) hk
      · obtain ⟨own2, h2, hN2, hn2⟩ := freezeAll_ok (vs := cc.args.toList.map (opd st)) hinv
        refine fin _ _ h2 (hrep.mono (fun b hb => ⟨?_, rfl⟩) fun _ _ => rfl) hk
        by_cases hold : b < w.heap.size
        · rcases hb.2.2.2 hold with (hb' | hb') | hb'
          · exact hN2 b ⟨hb.1, hb'.2.1, hb.2.1, hb'.2.2.2⟩
          · exact hn2 b hb'
          · cases hb'
        · refine hN2 b ⟨hb.1, fun i hi => hold (h.lt i b hi), hb.2.1, fun hlt => ?_⟩
          have := h.grow
          omega

end
end Go.Gx
