import Derived.Test.YtpomjejencfiiaaGxSwap
set_option linter.unusedSimpArgs false
set_option linter.unusedVariables false
namespace Go.Gx
open Go

section
variable {A : Cfg} {st : St} {ρ : Type} {all : List Oper}

theorem dstB_ne {x y : Oper} (h : dstB x y = true) : ∀ n, x.dst = some n → y.dst ≠ some n := by
  intro n hn
  simpa [dstB, hn] using h

theorem apartB_spec {x y : Oper} (h : apartB all x y = true) : (∀ n, x.dst = some n → n ∉ looks all y) ∧ (∀ n, y.dst = some n → n ∉ looks all x) := by
  simp only [apartB, Bool.and_eq_true] at h
  refine ⟨fun n hn => ?_, fun n hn => ?_⟩
  · have := h.1; rw [hn] at this; simpa using this
  · have := h.2; rw [hn] at this; simpa using this

theorem freeD_mem {is : List Nat} (h : freeD A all is st = true) {i : Nat} (hi : i ∈ is) {o : Oper} (ho : all[i]? = some o) (hc : cleanOp A o = true) : ∀ n, o.dst = some n → (st.get n).isOwner = false := by
  intro n hn
  have := List.all_eq_true.1 h i hi
  rw [ho] at this
  simp only [hc, Bool.not_true, Bool.false_or, hn, Bool.not_eq_true'] at this
  exact this

theorem freeD_set {is : List Nat} (h : freeD A all is st = true) {d : Option Nat} {v : V} (hd : ∀ i ∈ is, ∀ o, all[i]? = some o → cleanOp A o = true → ∀ n, d = some n → o.dst ≠ some n) : freeD A all is (st.setO d v) = true := by
  unfold freeD at *
  refine List.all_eq_true.2 fun i hi => ?_
  have h0 := List.all_eq_true.1 h i hi
  cases ho : all[i]? with
  | none => rw [ho] at h0; cases h0
  | some o =>
    rw [ho] at h0
    simp only at h0 ⊢
    cases hc : cleanOp A o with
    | false => rfl
    | true =>
      rw [hc] at h0
      simp only [Bool.not_true, Bool.false_or] at h0 ⊢
      cases hod : o.dst with
      | none => rfl
      | some m =>
        rw [hod] at h0
        simp only at h0 ⊢
        cases hdd : d with
        | none => exact h0
        | some n =>
          have hne := hd i hi o ho hc n hdd
          simp only [St.setO]
          rw [get_set, if_neg]
          · exact h0
          · rintro ⟨rfl, _⟩; exact hne hod

theorem lagree_refl {o : Oper} : LAgree all o st st := fun t _ => ⟨rfl, vagree_refl _⟩

theorem refsOk_names {o : Oper} {v : V} (hr : RefsOk st) (h : ∀ s, v.names s → ∃ t ∈ looks all o, (opd st (.tmp t)).names s) : ∀ s, v.names s → (st.get s).isOwner = true := by
  intro s hs
  obtain ⟨t, _, ht⟩ := h s hs
  exact opd_names hr ht

theorem refsOk_setO {d : Option Nat} {v : V} (hr : RefsOk st) (hd : ∀ n, d = some n → (st.get n).isOwner = false) (hv : ∀ s, v.names s → (st.get s).isOwner = true) : RefsOk (st.setO d v) := by
  cases d with
  | none => exact hr
  | some n => exact refsOk_set hr (hd n rfl) hv

theorem runD_clean {i : Nat} {is : List Nat} {o : Oper} {k : St → Option ρ} (ho : all[i]? = some o) (hc : cleanOp A o = true) : runD A all (i :: is) st k = stepG A all o st fun st' => runD A all is st' k := by
  simp only [runD, ho, hc, if_true]

theorem bubble {j : Nat} {post : List Nat} {oj : Oper} {r : ρ} {k : St → Option ρ} (hj : all[j]? = some oj) (hcj : cleanOp A oj = true) : ∀ {pre : List Nat} {st : St}, (∀ i ∈ pre, ∃ o, all[i]? = some o ∧ cleanOp A o = true ∧ apartB all o oj = true) →
    (pre ++ [j]).Pairwise (fun a b => ∀ x y, all[a]? = some x → all[b]? = some y → cleanOp A x = true → cleanOp A y = true → dstB x y = true) → RefsOk st → freeD A all (pre ++ [j]) st = true → runD A all (pre ++ j :: post) st k = some r →
    stepG A all oj st (fun s => runD A all (pre ++ post) s k) = some r
  | [], st, _, _, _, _, h => by
    rw [List.nil_append, runD_clean hj hcj] at h
    exact h
  | i :: pre, st, hpre, hpw, hr, hfr, h => by
    obtain ⟨oi, hi, hci, hap⟩ := hpre i List.mem_cons_self
    rw [List.cons_append, runD_clean hi hci] at h
    simp only [List.cons_append, List.pairwise_cons] at hpw
    have di := freeD_mem hfr (i := i) List.mem_cons_self hi hci
    have dj := freeD_mem hfr (i := j) (by simp) hj hcj
    obtain ⟨v, h1, hn, hl⟩ := cleanG_loc hci h
    rw [putO_free di] at h1
    have hfr' : freeD A all (pre ++ [j]) (st.setO oi.dst v) = true := by
      refine freeD_set ?_ fun i' hi' o ho hc n hn => ?_
      · unfold freeD at hfr ⊢
        rw [List.cons_append, List.all_cons, Bool.and_eq_true] at hfr
        exact hfr.2
      · exact dstB_ne (hpw.1 i' hi' oi o hi ho hci hc) n hn
    have ih := bubble hj hcj (fun i' hi' => hpre i' (List.mem_cons_of_mem _ hi')) hpw.2 (refsOk_setO hr di (refsOk_names hr hn)) hfr' h1
    have hsw : stepG A all oi st (fun s1 => stepG A all oj s1 fun s => runD A all (pre ++ post) s k) = some r := by
      rw [hl _ st lagree_refl, putO_free di]
      exact ih
    obtain ⟨ax, ai⟩ := apartB_spec hap
    have := swap_ok hci hcj hr di dj ax ai (dstB_ne (hpw.1 j (by simp) oi oj hi hj hci hcj)) hsw
    rw [List.cons_append]
    rw [← this]
    congr 1
    funext s
    rw [runD_clean hi hci]

end

section
variable {P : Program} {A : Cfg} {c : Ctx} {own : Nat → List Nat} {st : St} {a : Act} {w : World} {ρ : Type}

theorem Inv.refsOk {E : List Nat} (h : Inv c own E st a w) : RefsOk st := by
  intro i s hn
  have hs := h.slot i
  cases hv : st.get i with
  | ref q p k =>
    rw [hv] at hs hn
    simp only [V.names] at hn
    subst hn
    exact hs.2.1
  | win _ _ _ _ => rw [hv] at hs; exact hs.elim
  | _ => rw [hv] at hn; exact hn.elim

theorem Inv.drew (h : Inv c own [] st a w) (n : Nat) : Inv c own [] st a { w with drawn := n } :=
  h.grown (E' := []) (fun _ _ _ => rfl) (Nat.le_refl _) rfl rfl rfl (fun _ => rfl) List.nodup_nil (by simp)

theorem pairOk_spec {all : List Oper} {t : List (Nat × List Nat)} {i j : Nat} (h : pairOk A all t i j = true) : i ≠ j ∧ j ∉ aftL all i ∧ (∀ x y, all[i]? = some x → all[j]? = some y → cleanOp A x = true → cleanOp A y = true → dstB x y = true) ∧
    (i ∈ tabOf t j ∨ ∃ x y, all[i]? = some x ∧ all[j]? = some y ∧ cleanOp A x = true ∧ cleanOp A y = true ∧ apartB all x y = true) := by
  unfold pairOk at h
  split at h
  case h_2 => cases h
  rename_i x y hx hy
  simp only [Bool.and_eq_true, bne_iff_ne, ne_eq, Bool.not_eq_true', List.contains_eq_mem, decide_eq_false_iff_not, Bool.or_eq_true, decide_eq_true_eq] at h
  obtain ⟨⟨⟨h1, h2⟩, h3⟩, h4⟩ := h
  refine ⟨h1, h2, fun x' y' hx' hy' c1 c2 => ?_, ?_⟩
  · rw [hx] at hx'; rw [hy] at hy'
    cases hx'; cases hy'
    rcases h3 with h3 | h3
    · exact h3
    · simp [c1, c2] at h3
  · rcases h4 with h4 | h4
    · exact .inl h4
    · exact .inr ⟨x, y, hx, hy, h4.1.1, h4.1.2, h4.2⟩

theorem pairsOk_spec {all : List Oper} {t : List (Nat × List Nat)} : ∀ {is : List Nat}, pairsOk A all t is = true → is.Pairwise fun i j => pairOk A all t i j = true
  | [], _ => List.Pairwise.nil
  | i :: is, h => by
    simp only [pairsOk, Bool.and_eq_true, List.all_eq_true] at h
    exact List.Pairwise.cons h.1 (pairsOk_spec h.2)

theorem ready_mem {ops : Array Oper} {listed : Array Bool} {i : Nat} (h : i ∈ Region.ready .any ops listed) : i < ops.size ∧ listed.getD i true = false ∧ ∀ e ∈ aftL ops.toList i, listed.getD e false = true := by
  unfold Region.ready at h
  simp only [List.mem_filter, List.mem_range, Bool.and_eq_true, Bool.not_eq_true'] at h
  obtain ⟨h1, h2, h3⟩ := h
  refine ⟨h1, h2, fun e he => ?_⟩
  unfold aftL at he
  simp only [Array.getElem?_toList] at he
  rw [Array.getElem?_eq_getElem h1] at he h3
  simp only [Option.map_some, Option.getD_some, List.mem_filterMap] at he h3
  obtain ⟨ed, hed, he⟩ := he
  have := (Array.all_eq_true_iff_forall_mem.1 h3) ed (by simpa using hed)
  split at he
  · rename_i hb
    simp only [Option.some.injEq] at he
    subst he
    simpa [hb] using this
  · cases he

theorem mem_ready {ops : Array Oper} {listed : Array Bool} {i : Nat} (h1 : i < ops.size) (h2 : listed.getD i true = false) (h3 : ∀ e ∈ aftL ops.toList i, listed.getD e false = true) : i ∈ Region.ready .any ops listed := by
  unfold Region.ready
  simp only [List.mem_filter, List.mem_range, Bool.and_eq_true, Bool.not_eq_true']
  refine ⟨h1, h2, ?_⟩
  rw [Array.getElem?_eq_getElem h1]
  simp only [Option.map_some, Option.getD_some]
  refine Array.all_eq_true_iff_forall_mem.2 fun ed hed => ?_
  cases hb : Region.binds .any ed with
  | false => simp
  | true =>
    simp only [Bool.not_true, Bool.false_or]
    refine h3 ed.on ?_
    unfold aftL
    simp only [Array.getElem?_toList]
    rw [Array.getElem?_eq_getElem h1]
    exact List.mem_filterMap.2 ⟨ed, by simpa using hed, by simp [hb]⟩

theorem any_ok (hA : CfgOk P A) (hS : SigOk P A) {ops : Array Oper} {t : List (Nat × List Nat)} {k : St → Option ρ} {r : ρ} {Q : Exit → Act → World → Prop}
    (hQ : ∀ own' st' a' w', k st' = some r → Inv c own' [] st' a' w' → Q .normal a' w') (hfx : ∀ o ∈ ops.toList, ∀ n, o.dst = some n → c.fix n = none)
    (haft : ∀ i, i < ops.size → ∀ e ∈ aftL ops.toList i, e < ops.size ∧ e ≠ i) (htab : ∀ i, i < ops.size → ∀ x ∈ tabOf t i, x ∈ aftL ops.toList i ∨ ∃ e ∈ aftL ops.toList i, x ∈ tabOf t e) :
    ∀ {fuel : Nat} {R : List Nat} {listed : Array Bool} {own : Nat → List Nat} {st : St} {a : Act} {w : World}, R.length ≤ fuel → listed.size = ops.size → (∀ i, i < ops.size → (listed.getD i true = true ↔ i ∉ R)) → (∀ i ∈ R, i < ops.size) → R.Nodup →
    (∀ j, j < ops.size → j ∉ R → ∀ x ∈ tabOf t j, x ∉ R) → (R.Pairwise fun i j => pairOk A ops.toList t i j = true) → freeD A ops.toList R st = true → Inv c own [] st a w → runD A ops.toList R st k = some r →
    wpAny P .any ops Q fuel listed a w := by
  intro fuel
  induction fuel with
  | zero =>
    intro R listed own st a w hR hsz hl hRn hnd hcl hpw hfr h hk
    have : R = [] := List.eq_nil_of_length_eq_zero (by omega)
    subst this
    simp only [runD] at hk
    refine ⟨?_, hQ _ _ _ _ hk h⟩
    refine List.eq_nil_iff_forall_not_mem.2 fun i hi => ?_
    obtain ⟨h1, h2, _⟩ := ready_mem hi
    have := (hl i h1).2 (by simp)
    rw [h2] at this
    cases this
  | succ fuel ih =>
    intro R listed own st a w hR hsz hl hRn hnd hcl hpw hfr h hk
    have hgf : ∀ e, e < ops.size → listed.getD e false = listed.getD e true := by
      intro e he
      rw [← hsz] at he
      simp [Array.getD_eq_getD_getElem?, he]
    have hge : ∀ e, listed.getD e false = true → e < ops.size := by
      intro e he
      rw [← hsz]
      rcases Nat.lt_or_ge e listed.size with h' | h'
      · exact h'
      · simp [Array.getD_eq_getD_getElem?, Nat.not_lt.2 h'] at he
    refine ⟨fun hready => ?_, fun j hj => ?_⟩
    · cases R with
      | nil => simp only [runD] at hk; exact hQ _ _ _ _ hk h
      | cons i0 R =>
        exfalso
        have hi0 := hRn i0 List.mem_cons_self
        have : i0 ∈ Region.ready .any ops listed := by
          refine mem_ready hi0 ?_ fun e he => ?_
          · cases hb : listed.getD i0 true with
            | false => rfl
            | true => exact absurd List.mem_cons_self ((hl i0 hi0).1 hb)
          · obtain ⟨he1, he2⟩ := haft i0 hi0 e he
            rw [hgf e he1]
            refine (hl e he1).2 ?_
            rw [List.mem_cons, not_or]
            refine ⟨he2, fun heR => ?_⟩
            have hp := (List.pairwise_cons.1 hpw).1 e heR
            exact (pairOk_spec hp).2.1 he
        rw [hready] at this
        cases this
    · obtain ⟨hj1, hj2, hj3⟩ := ready_mem hj
      have hjR : j ∈ R := by
        refine Classical.byContradiction fun hn => ?_
        have := (hl j hj1).2 hn
        rw [hj2] at this
        cases this
      have haR : ∀ e ∈ aftL ops.toList j, e < ops.size ∧ e ∉ R := by
        intro e he
        have h1 := hj3 e he
        have h2 := hge e h1
        rw [hgf e h2] at h1
        exact ⟨h2, (hl e h2).1 h1⟩
      have htR : ∀ x ∈ tabOf t j, x ∉ R := by
        intro x hx
        rcases htab j hj1 x hx with hx | ⟨e, he, hx⟩
        · exact (haR x hx).2
        · exact hcl e (haR e he).1 (haR e he).2 x hx
      obtain ⟨pre, post, rfl⟩ := List.append_of_mem hjR
      have hoj : ops[j]? = some ops[j] := Array.getElem?_eq_getElem hj1
      have hoj' : ops.toList[j]? = some ops[j] := by simp [hj1]
      have hfxj := hfx ops[j] (by simp)
      have hndp := hnd
      simp only [List.nodup_append, List.nodup_cons, List.mem_cons] at hndp
      -- the rest, behind operation j
      have rest : ∀ own' st' a' w', freeD A ops.toList (pre ++ post) st' = true → runD A ops.toList (pre ++ post) st' k = some r → Inv c own' [] st' a' w' → wpAny P .any ops Q fuel (listed.setIfInBounds j true) a' w' := by
        intro own' st' a' w' hf' hk' h'
        refine ih (R := pre ++ post) (by simp at hR ⊢; omega) (by simp [hsz]) (fun i hi => ?_) (fun i hi => hRn i ?_) ?_ (fun i hi hiR x hx => ?_) ?_ hf' h' hk'
        · have e : (listed.setIfInBounds j true).getD i true = if i = j then true else listed.getD i true := by
            simp only [Array.getD_eq_getD_getElem?, Array.getElem?_setIfInBounds]
            by_cases hij : j = i
            · subst hij; simp [hsz, hj1]
            · simp [hij, Ne.symm hij]
          rw [e]
          split
          · rename_i e'; subst e'
            simp only [true_iff, List.mem_append, not_or]
            exact ⟨fun h1 => hndp.2.2 i h1 i (.inl rfl) rfl, hndp.2.1.1⟩
          · rename_i hne
            rw [hl i hi]
            simp [hne]
        · simp only [List.mem_append, List.mem_cons] at hi ⊢
          rcases hi with hi | hi
          · exact .inl hi
          · exact .inr (.inr hi)
        · refine List.Sublist.nodup ?_ hnd
          exact List.Sublist.append (List.Sublist.refl _) (List.sublist_cons_self _ _)
        · have hsubR : ∀ y, y ∈ pre ++ post → y ∈ pre ++ j :: post := by
            intro y hy
            simp only [List.mem_append, List.mem_cons] at hy ⊢
            rcases hy with hy | hy
            · exact .inl hy
            · exact .inr (.inr hy)
          intro hxR
          by_cases hij : i = j
          · subst hij; exact htR x hx (hsubR x hxR)
          · refine hcl i hi (fun hm => hiR ?_) x hx (hsubR x hxR)
            simp only [List.mem_append, List.mem_cons] at hm ⊢
            rcases hm with hm | hm | hm
            · exact .inl hm
            · exact absurd hm hij
            · exact .inr hm
        · exact hpw.sublist (List.Sublist.append (List.Sublist.refl _) (List.sublist_cons_self _ _))
      have hfsub : freeD A ops.toList (pre ++ post) st = true := by
        unfold freeD at hfr ⊢
        rw [List.all_append, List.all_cons] at hfr
        simp only [Bool.and_eq_true] at hfr
        rw [List.all_append, hfr.1, hfr.2.2]
        rfl
      by_cases hcj : cleanOp A ops[j] = true
      · have hpre : ∀ i ∈ pre, ∃ o, ops.toList[i]? = some o ∧ cleanOp A o = true ∧ apartB ops.toList o ops[j] = true := by
          intro i hi
          have hp := (List.pairwise_append.1 hpw).2.2 i hi j List.mem_cons_self
          obtain ⟨_, _, _, hc | ⟨x, y, hx, hy, c1, c2, c3⟩⟩ := pairOk_spec hp
          · exact absurd (List.mem_append_left _ hi) (htR i hc)
          · rw [hoj'] at hy
            cases hy
            exact ⟨x, hx, c1, c3⟩
        have hpw2 : (pre ++ [j]).Pairwise (fun a b => ∀ x y, ops.toList[a]? = some x → ops.toList[b]? = some y → cleanOp A x = true → cleanOp A y = true → dstB x y = true) := by
          have : (pre ++ [j]).Sublist (pre ++ j :: post) := List.Sublist.append (List.Sublist.refl _) (by simp)
          exact (hpw.sublist this).imp fun hp => (pairOk_spec hp).2.2.1
        have hfr2 : freeD A ops.toList (pre ++ [j]) st = true := by
          unfold freeD at hfr ⊢
          rw [List.all_append, List.all_cons] at hfr
          simp only [Bool.and_eq_true] at hfr
          rw [List.all_append, hfr.1, List.all_cons, hfr.2.1]
          rfl
        have hb := bubble hoj' hcj hpre hpw2 h.refsOk hfr2 hk
        -- with the check behind it
        obtain ⟨v, hv, hn, hloc⟩ := cleanG_loc hcj hb
        have dj := freeD_mem hfr (i := j) (by simp) hoj' hcj
        have hcheck : stepG A ops.toList ops[j] st (fun s => if freeD A ops.toList (pre ++ post) s then runD A ops.toList (pre ++ post) s k else none) = some r := by
          rw [hloc _ st lagree_refl, putO_free dj]
          rw [putO_free dj] at hv
          rw [if_pos, hv]
          refine freeD_set hfsub fun i hi o ho hc n hn => ?_
          rcases List.mem_append.1 hi with hi | hi
          · have hp := (List.pairwise_append.1 hpw).2.2 i hi j List.mem_cons_self
            intro hod
            exact dstB_ne ((pairOk_spec hp).2.2.1 o ops[j] ho hoj' hc hcj) n hod hn
          · have hp := (List.pairwise_cons.1 (List.pairwise_append.1 hpw).2.1).1 i hi
            exact dstB_ne ((pairOk_spec hp).2.2.1 ops[j] o hoj' ho hcj hc) n hn
        refine stepG_ok hA hS hoj hfxj (fun own' st' a' w' hk' h' => ?_) h hcheck
        split at hk'
        · rename_i hf; exact rest _ _ _ _ hf hk' h'
        · cases hk'
      · cases pre with
        | cons i pre =>
          exfalso
          have hp := (List.pairwise_append.1 hpw).2.2 i List.mem_cons_self j List.mem_cons_self
          obtain ⟨_, _, _, hc | ⟨x, y, hx, hy, c1, c2, c3⟩⟩ := pairOk_spec hp
          · exact absurd (List.mem_append_left _ List.mem_cons_self) (htR i hc)
          · rw [hoj'] at hy
            cases hy
            exact hcj c2
        | nil =>
          rw [List.nil_append] at hk
          simp only [runD, hoj', hcj, Bool.false_eq_true, if_false] at hk
          refine stepG_ok hA hS hoj hfxj (fun own' st' a' w' hk' h' => ?_) h hk
          split at hk'
          · rename_i hf; exact rest _ _ _ _ hf hk' h'
          · cases hk'

theorem runDraw_ok (hA : CfgOk P A) (hS : SigOk P A) {id : Nat} {ops : Array Oper} {k : St → Option ρ} {r : ρ} {Q : Exit → Act → World → Prop}
    (hQ : ∀ own' st' a' w', k st' = some r → Inv c own' [] st' a' w' → Q .normal a' w') (hfx : ∀ o ∈ ops.toList, ∀ n, o.dst = some n → c.fix n = none) (h : Inv c own [] st a w) (hk : runDraw A ops.toList st k = some r) :
    (Code.region id ops true).wp P Q a w := by
  unfold runDraw at hk
  split at hk
  case h_2 => cases hk
  rename_i ord hord
  split at hk
  case isFalse => cases hk
  rename_i hfr
  unfold drawOrder at hord
  simp only at hord
  split at hord
  case isFalse => cases hord
  rename_i hok
  simp only [Option.some.injEq] at hord
  subst hord
  generalize topo ops.toList ops.toList.length (List.range ops.toList.length) [] = ord at *
  generalize ancTab ops.toList ord [] = t at *
  simp only [orderOk, Bool.and_eq_true, List.all_eq_true, decide_eq_true_eq, List.mem_range, List.contains_eq_mem, Array.length_toList, bne_iff_ne, ne_eq, Bool.or_eq_true, List.any_eq_true] at hok
  obtain ⟨⟨⟨h0, h1⟩, h2⟩, h3⟩ := hok
  have hpw := pairsOk_spec h3
  refine wp_region_any hA.mixed (any_ok hA hS hQ hfx (fun i hi e he => (h2 i hi).1.2 e he) (fun i hi x hx => (h2 i hi).2 x hx) (R := ord) ?_ (by simp) (fun i hi => ?_) h1 ?_ (fun j hj hjR => absurd (h2 j hj).1.1 hjR) hpw hfr (h.drew _) hk)
  · exact h0
  · simp only [Array.getD_eq_getD_getElem?, Array.getElem?_replicate, hi, if_true, Option.getD_some, Bool.false_eq_true, false_iff, Classical.not_not]
    exact (h2 i hi).1.1
  · exact hpw.imp fun hp => (pairOk_spec hp).1

end
end Go.Gx
