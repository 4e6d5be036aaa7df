import Derived.Test.YtpomjejencfiiaaGxClean
set_option linter.unusedSimpArgs false
set_option linter.unusedVariables false
namespace Go.Gx
open Go

section
variable {A : Cfg} {st : St} {ρ : Type}

/-- the states agree on what the operation looks at, and on what that names -/
def LAgree (all : List Oper) (o : Oper) (st st2 : St) : Prop := ∀ t ∈ looks all o, st2.get t = st.get t ∧ VAgree st st2 (opd st (.tmp t))

theorem cleanG_loc {all : List Oper} {o : Oper} {k : St → Option ρ} {r : ρ} (hc : cleanOp A o = true) (h : stepG A all o st k = some r) :
    ∃ v, k (st.putO o.dst v) = some r ∧ (∀ s, v.names s → ∃ t ∈ looks all o, (opd st (.tmp t)).names s) ∧
      ∀ {σ : Type} (k' : St → Option σ) (st2 : St), LAgree all o st st2 → stepG A all o st2 k' = k' (st2.putO o.dst v) := by
  have agree : ∀ st2, LAgree all o st st2 → ∀ x ∈ o.op.operands, opd st2 x = opd st x ∧ VAgree st st2 (opd st x) := by
    intro st2 ha x hx
    cases x with
    | tmp t =>
      have := ha t (List.mem_append_left _ (List.mem_filterMap.2 ⟨.tmp t, by simpa using hx, rfl⟩))
      exact ⟨opd_agree fun t' e => by cases e; exact this.1, this.2⟩
    | const v =>
      refine ⟨rfl, ?_⟩
      simp only [opd]
      cases v <;> simp only [constV] <;> (try exact trivial) <;> (split <;> exact trivial)
    | global g => exact ⟨rfl, trivial⟩
    | func f => exact ⟨rfl, trivial⟩
  have names : ∀ s x, x ∈ o.op.operands → (opd st x).names s → ∃ t ∈ looks all o, (opd st (.tmp t)).names s := by
    intro s x hx hn
    cases x with
    | tmp t => exact ⟨t, List.mem_append_left _ (List.mem_filterMap.2 ⟨.tmp t, by simpa using hx, rfl⟩), hn⟩
    | const v =>
      exfalso
      simp only [opd] at hn
      cases v <;> simp only [constV] at hn <;> (try exact hn) <;> (split at hn <;> exact hn)
    | global g => exact hn.elim
    | func f => exact hn.elim
  have plain : ∀ {st' : St}, st' = st → step A o st' k = some r → ∃ v, k (st.putO o.dst v) = some r ∧ (∀ s, v.names s → ∃ t ∈ looks all o, (opd st (.tmp t)).names s) ∧
      ∀ {σ : Type} (k' : St → Option σ) (st2 : St), LAgree all o st st2 → step A o st2 k' = k' (st2.putO o.dst v) := by
    intro st' e hstep
    rw [e] at hstep
    obtain ⟨v, h1, h2, h3⟩ := clean_loc hc hstep
    exact ⟨v, h1, fun s hs => by obtain ⟨x, hx, hn⟩ := h2 s hs; exact names s x hx hn, fun k' st2 ha => h3 k' st2 (agree st2 ha)⟩
  unfold stepG at h
  split at h
  · rename_i hg
    obtain ⟨v, h1, h2, h3⟩ := plain rfl h
    exact ⟨v, h1, h2, fun k' st2 ha => by simp only [stepG, hg]; exact h3 k' st2 ha⟩
  · rename_i j want hg
    split at h
    · cases h
    rename_i d hd
    split at h
    case h_2 => cases h
    rename_i f b hb
    have hl : d ∈ looks all o := by simp [looks, hg, hd]
    have skip : k (St.putO st o.dst .u) = some r → (b == want) = false → ∃ v, k (st.putO o.dst v) = some r ∧ (∀ s, v.names s → ∃ t ∈ looks all o, (opd st (.tmp t)).names s) ∧
        ∀ {σ : Type} (k' : St → Option σ) (st2 : St), LAgree all o st st2 → stepG A all o st2 k' = k' (st2.putO o.dst v) := by
      intro h hbw
      refine ⟨.u, h, fun s hs => hs.elim, fun k' st2 ha => ?_⟩
      have h2 : st2.get d = .val .bool f b := by rw [(ha d hl).1, hb]
      simp only [stepG, hg, hd, h2]
      cases b <;> cases want <;> simp_all [St.set_same h2]
    have go : step A o st k = some r → (b == want) = true → ∃ v, k (st.putO o.dst v) = some r ∧ (∀ s, v.names s → ∃ t ∈ looks all o, (opd st (.tmp t)).names s) ∧
        ∀ {σ : Type} (k' : St → Option σ) (st2 : St), LAgree all o st st2 → stepG A all o st2 k' = k' (st2.putO o.dst v) := by
      intro h hbw
      obtain ⟨v, h1, h2', h3⟩ := plain rfl h
      refine ⟨v, h1, h2', fun k' st2 ha => ?_⟩
      have h2 : st2.get d = .val .bool f b := by rw [(ha d hl).1, hb]
      simp only [stepG, hg, hd, h2]
      rw [← h3 k' st2 ha]
      cases b <;> cases want <;> simp_all [St.set_same h2]
    cases b <;> cases want <;> simp only [cond_true, cond_false, if_true, Bool.false_eq_true, if_false, St.set_same hb] at h
    · exact go h rfl
    · exact skip h rfl
    · exact skip h rfl
    · exact go h rfl

/-- aliases lead to what is owned -/
def RefsOk (st : St) : Prop := ∀ i s, (st.get i).names s → (st.get s).isOwner = true

theorem opd_names {t s : Nat} (hr : RefsOk st) (h : (opd st (.tmp t)).names s) : (st.get s).isOwner = true := by
  simp only [opd] at h
  split at h
  · rename_i τ f x hv
    split at h
    · exact h.elim
    · rename_i hf
      simp only [V.names] at h
      subst h
      rw [hv]
      cases f <;> simp_all [V.isOwner]
  · exact hr t s h

theorem vagree_set {d : Nat} {x : V} {t : Nat} (hr : RefsOk st) (hd : (st.get d).isOwner = false) : VAgree st (st.set d x) (opd st (.tmp t)) := by
  have key : ∀ s, (opd st (.tmp t)).names s → St.get (st.set d x) s = st.get s := by
    intro s hs
    have hs := opd_names hr hs
    rw [get_set]
    split
    · rename_i e; rw [e.1, hd] at hs; cases hs
    · rfl
  cases hv : opd st (.tmp t) with
  | ref s p k => exact key s (by rw [hv]; rfl)
  | win s a b t' => exact key s (by rw [hv]; rfl)
  | _ => trivial

theorem lagree_set {all : List Oper} {o : Oper} {d : Nat} {x : V} (hr : RefsOk st) (hd : (st.get d).isOwner = false) (hl : d ∉ looks all o) : LAgree all o st (st.set d x) := by
  intro t ht
  refine ⟨?_, vagree_set hr hd⟩
  rw [get_set, if_neg]
  rintro ⟨rfl, _⟩
  exact hl ht

def St.setO (st : St) (d : Option Nat) (v : V) : St := match d with
  | some n => st.set n v
  | none => st

theorem putO_free {d : Option Nat} {v : V} (hd : ∀ n, d = some n → (st.get n).isOwner = false) : st.putO d v = st.setO d v := by
  cases d with
  | none => rfl
  | some n => simp only [St.putO, St.put, hd n rfl, Bool.false_eq_true, if_false, St.setO]

theorem refsOk_set {d : Nat} {v : V} (hr : RefsOk st) (hd : (st.get d).isOwner = false) (hv : ∀ s, v.names s → (st.get s).isOwner = true) : RefsOk (st.set d v) := by
  have keep : ∀ s, (st.get s).isOwner = true → (St.get (st.set d v) s).isOwner = true := by
    intro s hs
    rw [get_set, if_neg]
    · exact hs
    · rintro ⟨rfl, _⟩; rw [hd] at hs; cases hs
  intro i s
  rw [get_set]
  split
  · exact fun h => keep s (hv s h)
  · exact fun h => keep s (hr i s h)

theorem vagree_refl (v : V) : VAgree st st v := by cases v <;> first | rfl | trivial

theorem lagree_unset {all : List Oper} {o : Oper} {d : Nat} {x : V} (hr : RefsOk st) (hd : (st.get d).isOwner = false) (hl : d ∉ looks all o) : LAgree all o (st.set d x) st := by
  intro t ht
  have e : St.get (st.set d x) t = st.get t := by
    rw [get_set, if_neg]
    rintro ⟨rfl, _⟩
    exact hl ht
  have eo : opd (st.set d x) (.tmp t) = opd st (.tmp t) := opd_agree fun t' e' => by cases e'; exact e
  refine ⟨e.symm, ?_⟩
  rw [eo]
  have := vagree_set (x := x) (t := t) hr hd
  cases hv : opd st (.tmp t) with
  | ref s p k => rw [hv] at this; exact this.symm
  | win s a b t' => rw [hv] at this; exact this.symm
  | _ => trivial

theorem swap_ok {all : List Oper} {x i : Oper} {k : St → Option ρ} {r : ρ} (hx : cleanOp A x = true) (hi : cleanOp A i = true) (hr : RefsOk st) (dx : ∀ n, x.dst = some n → (st.get n).isOwner = false) (di : ∀ n, i.dst = some n → (st.get n).isOwner = false)
    (ax : ∀ n, x.dst = some n → n ∉ looks all i) (ai : ∀ n, i.dst = some n → n ∉ looks all x) (ne : ∀ n, x.dst = some n → i.dst ≠ some n) (h : stepG A all x st (fun s => stepG A all i s k) = some r) : stepG A all i st (fun s => stepG A all x s k) = some r := by
  obtain ⟨v1, h, n1, l1⟩ := cleanG_loc hx h
  rw [putO_free dx] at h
  have di2 : ∀ n, i.dst = some n → (St.get (st.setO x.dst v1) n).isOwner = false := by
    intro n hn
    cases hxd : x.dst with
    | none => exact di n hn
    | some m =>
      simp only [St.setO]
      rw [get_set, if_neg]
      · exact di n hn
      · rintro ⟨rfl, _⟩; exact ne _ hxd hn
  obtain ⟨v2, h, n2, l2⟩ := cleanG_loc hi h
  rw [putO_free di2] at h
  have hi1 : LAgree all i (st.setO x.dst v1) st := by
    cases hxd : x.dst with
    | none => exact fun t ht => ⟨rfl, vagree_refl _⟩
    | some m => exact lagree_unset hr (dx m hxd) (ax m hxd)
  rw [l2 _ st hi1, putO_free di]
  have hx1 : LAgree all x st (st.setO i.dst v2) := by
    cases hid : i.dst with
    | none => exact fun t ht => ⟨rfl, vagree_refl _⟩
    | some m => exact lagree_set hr (di m hid) (ai m hid)
  rw [l1 _ _ hx1]
  have dx2 : ∀ n, x.dst = some n → (St.get (st.setO i.dst v2) n).isOwner = false := by
    intro n hn
    cases hid : i.dst with
    | none => exact dx n hn
    | some m =>
      simp only [St.setO]
      rw [get_set, if_neg]
      · exact dx n hn
      · rintro ⟨rfl, _⟩; exact ne _ hn hid
  rw [putO_free dx2, ← h]
  cases hxd : x.dst with
  | none => cases hid : i.dst <;> rfl
  | some m =>
    cases hid : i.dst with
    | none => rfl
    | some m' =>
      simp only [St.setO]
      rw [List.set_comm]
      rintro rfl
      exact ne _ hxd hid

end
end Go.Gx
