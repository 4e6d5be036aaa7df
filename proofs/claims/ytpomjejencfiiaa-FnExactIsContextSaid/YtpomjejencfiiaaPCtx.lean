import Derived.Test.YtpomjejencfiiaaPLaws
set_option linter.unusedVariables false
namespace Go.Proofs.Ytpomjejencfiiaa
open Go Go.Gx Go.Proofs

/-! lists of Booleans -/
theorem toBoolS_l (N : Nat) (k : List Bool → Option (List Bool × Unit)) : ∀ (n : Nat) (a out : List Bool) (i : Nat), a.length - i < n → i ≤ a.length → out.length = a.length → a.length ≤ 1099511627776 →
    laws_toBoolS_l3 N k n a out i = k (out.take i ++ a.drop i)
  | 0, _, _, _, h, _, _, _ => by omega
  | n + 1, a, out, i, h, hi, ho, hb => by
    simp only [laws_toBoolS_l3, laws_toBoolS_b3]
    by_cases hlt : i < a.length
    · rw [cdt (by omega), atI_lt a i hlt, Option.bind_some, atI_lt out i (by omega), Option.bind_some, Int.toNat_natCast, List.getElem?_eq_getElem (by omega), Option.bind_some, wr (by omega) (by omega)]
      have := toBoolS_l N k n a (out.set i a[i]) (i + 1) (by omega) (by omega) (by simpa using ho) hb
      rw [show ((i : Int) + 1) = ((i + 1 : Nat) : Int) by omega, this]
      congr 1
      rw [List.take_succ_eq_append_getElem (by simp; omega), List.take_set, List.set_eq_of_length_le (by simp [Nat.min_le_left]), List.append_assoc]
      congr 1
      rw [List.getElem_set_self, List.singleton_append, ← List.drop_eq_getElem_cons hlt]
    · rw [cdf (by omega)]
      have : i = a.length := by omega
      subst this
      rw [List.drop_length, List.append_nil, List.take_of_length_le (by omega)]

theorem toBoolS_eq (a : List Bool) (h : a.length ≤ 4294967296) : laws_toBoolS big a = some (a, ()) := by
  have hb := big_ge
  unfold laws_toBoolS laws_toBoolS_s
  rw [mkI_nat _ _ h, Option.bind_some, Option.bind_some, cdt (by omega)]
  unfold laws_toBoolS_F3
  have := toBoolS_l big laws_toBoolS_a3 big a (List.replicate a.length false) 0 (by omega) (by omega) (by simp) (by omega)
  refine Eq.trans this ?_
  simp [laws_toBoolS_a3]

theorem eqBoolS_l (N : Nat) (k : Option (Bool × Unit)) : ∀ (n : Nat) (a b : List Bool) (i : Nat), a.length - i < n → i ≤ a.length → b.length = a.length → a.length ≤ 1099511627776 →
    laws_eqBoolS_l4 N k n a b i = if a.drop i = b.drop i then k else some (false, ())
  | 0, _, _, _, h, _, _, _ => by omega
  | n + 1, a, b, i, h, hi, hl, hb => by
    simp only [laws_eqBoolS_l4, laws_eqBoolS_b4]
    by_cases hlt : i < a.length
    · rw [cdt (by omega), atI_lt a i hlt, Option.bind_some, atI_lt b i (by omega), Option.bind_some, wr (by omega) (by omega)]
      have := eqBoolS_l N k n a b (i + 1) (by omega) (by omega) hl hb
      rw [show ((i : Int) + 1) = ((i + 1 : Nat) : Int) by omega, this]
      rw [List.drop_eq_getElem_cons hlt, List.drop_eq_getElem_cons (show i < b.length by omega)]
      by_cases hx : a[i] = b[i]
      · rw [hx]; simp only [bne_self_eq_false, cond_false, List.cons.injEq, true_and]
      · rw [show (a[i] != b[i]) = true by simpa using hx, cond_true, if_neg (fun e => hx (by simp only [List.cons.injEq] at e; exact e.1))]
    · rw [cdf (by omega), List.drop_eq_nil_of_le (by omega), List.drop_eq_nil_of_le (by omega)]
      simp

theorem eqBoolS_eq (a b : List Bool) (h : a.length ≤ 1099511627775) : laws_eqBoolS big a b = some (decide (a = b), ()) := by
  have hb := big_ge
  unfold laws_eqBoolS laws_eqBoolS_s
  by_cases hl : a.length = b.length
  · rw [cdf (by simp [hl])]
    unfold laws_eqBoolS_F4
    have := eqBoolS_l big laws_eqBoolS_a4 big a b 0 (by omega) (by omega) (by omega) (by omega)
    rw [show (0 : Int) = ((0 : Nat) : Int) from rfl, this]
    simp only [List.drop_zero, laws_eqBoolS_a4]
    by_cases he : a = b <;> simp [he]
  · rw [cdt (by omega)]
    have : a ≠ b := by rintro rfl; exact hl rfl
    simp [this]


theorem toBoolSS_l (N : Nat) (k : List (List Bool) → Option (List (List Bool) × Unit)) : ∀ (n : Nat) (a out : List (List Bool)) (i : Nat), a.length - i < n → i ≤ a.length → out.length = a.length → a.length ≤ 1099511627776 → (∀ x ∈ a, x.length ≤ 4294967296) →
    laws_toBoolSS_l3 N k n a out i = k (out.take i ++ a.drop i)
  | 0, _, _, _, h, _, _, _, _ => by omega
  | n + 1, a, out, i, h, hi, ho, hb, hx => by
    simp only [laws_toBoolSS_l3, laws_toBoolSS_b3]
    by_cases hlt : i < a.length
    · rw [cdt (by omega), atI_lt a i hlt, Option.bind_some, toBoolS_eq _ (hx _ (List.getElem_mem hlt)), Option.bind_some, atI_lt out i (by omega), Option.bind_some, Int.toNat_natCast, List.getElem?_eq_getElem (by omega), Option.bind_some, wr (by omega) (by omega)]
      have := toBoolSS_l N k n a (out.set i a[i]) (i + 1) (by omega) (by omega) (by simpa using ho) hb hx
      rw [show ((i : Int) + 1) = ((i + 1 : Nat) : Int) by omega, this]
      congr 1
      rw [List.take_succ_eq_append_getElem (by simp; omega), List.take_set, List.set_eq_of_length_le (by simp [Nat.min_le_left]), List.append_assoc]
      congr 1
      rw [List.getElem_set_self, List.singleton_append, ← List.drop_eq_getElem_cons hlt]
    · rw [cdf (by omega)]
      have : i = a.length := by omega
      subst this
      rw [List.drop_length, List.append_nil, List.take_of_length_le (by omega)]

theorem toBoolSS_eq (a : List (List Bool)) (h : a.length ≤ 4294967296) (hx : ∀ x ∈ a, x.length ≤ 4294967296) : laws_toBoolSS big a = some (a, ()) := by
  have hb := big_ge
  unfold laws_toBoolSS laws_toBoolSS_s
  rw [mkI_nat _ _ h, Option.bind_some, Option.bind_some, cdt (by omega)]
  unfold laws_toBoolSS_F3
  have := toBoolSS_l big laws_toBoolSS_a3 big a (List.replicate a.length []) 0 (by omega) (by omega) (by simp) (by omega) hx
  refine Eq.trans this ?_
  simp [laws_toBoolSS_a3]

theorem eqBoolSS_l (N : Nat) (k : Option (Bool × Unit)) : ∀ (n : Nat) (a b : List (List Bool)) (i : Nat), a.length - i < n → i ≤ a.length → b.length = a.length → a.length ≤ 1099511627776 → (∀ x ∈ a, x.length ≤ 4294967296) →
    laws_eqBoolSS_l4 N k n a b i = if a.drop i = b.drop i then k else some (false, ())
  | 0, _, _, _, h, _, _, _, _ => by omega
  | n + 1, a, b, i, h, hi, hl, hb, hx => by
    simp only [laws_eqBoolSS_l4, laws_eqBoolSS_b4]
    by_cases hlt : i < a.length
    · have hxx := hx _ (List.getElem_mem hlt)
      rw [cdt (by omega), atI_lt a i hlt, Option.bind_some, atI_lt b i (by omega), Option.bind_some, eqBoolS_eq _ _ (by omega), Option.bind_some, wr (by omega) (by omega)]
      have := eqBoolSS_l N k n a b (i + 1) (by omega) (by omega) hl hb hx
      rw [show ((i : Int) + 1) = ((i + 1 : Nat) : Int) by omega, this]
      rw [List.drop_eq_getElem_cons hlt, List.drop_eq_getElem_cons (show i < b.length by omega)]
      by_cases hx : a[i] = b[i]
      · rw [hx]; simp only [decide_true, Bool.not_true, cond_false, List.cons.injEq, true_and]
      · rw [decide_eq_false hx]; exact (if_neg (fun e => hx (List.cons.inj e).1)).symm
    · rw [cdf (by omega), List.drop_eq_nil_of_le (by omega), List.drop_eq_nil_of_le (by omega)]
      simp

theorem eqBoolSS_eq (a b : List (List Bool)) (h : a.length ≤ 1099511627775) (hx : ∀ x ∈ a, x.length ≤ 4294967296) : laws_eqBoolSS big a b = some (decide (a = b), ()) := by
  have hb := big_ge
  unfold laws_eqBoolSS laws_eqBoolSS_s
  by_cases hl : a.length = b.length
  · rw [cdf (by simp [hl])]
    unfold laws_eqBoolSS_F4
    have := eqBoolSS_l big laws_eqBoolSS_a4 big a b 0 (by omega) (by omega) (by omega) (by omega) hx
    refine Eq.trans this ?_
    simp only [List.drop_zero, laws_eqBoolSS_a4]
    by_cases he : a = b <;> simp [he]
  · rw [cdt (by omega)]
    have : a ≠ b := by rintro rfl; exact hl rfl
    simp [this]

/-- what is left of a size -/
theorem szBoolS_eq (a : List Bool) (l : Int) (h : a.length ≤ 9223372036854775807) (h0 : 0 ≤ l) (h1 : l ≤ 1048576) : laws_szBoolS a l = some ((if (a.length : Int) ≤ l then l - a.length else -1), ()) := by
  unfold laws_szBoolS laws_szBoolS_s
  rw [wr (by omega) (by omega), cd]
  by_cases hl : (a.length : Int) ≤ l
  · rw [if_neg (by omega), if_pos hl]
  · rw [if_pos (by omega), if_neg hl]

theorem szBoolSS_l (N : Nat) : ∀ (n : Nat) (a : List (List Bool)) (l : Int) (i : Nat), a.length - i < n → i ≤ a.length → a.length ≤ 1048576 → 0 ≤ l → l ≤ 1048576 → (∀ x ∈ a, x.length ≤ 9223372036854775807) →
    ∃ v, laws_szBoolSS_l5 N laws_szBoolSS_a5 n a l i = some (v, ()) ∧ (0 ≤ v → ∀ x ∈ a.drop i, x.length ≤ 1048576)
  | 0, _, _, _, h, _, _, _, _, _ => by omega
  | n + 1, a, l, i, h, hi, hb, h0, h1, hx => by
    simp only [laws_szBoolSS_l5, laws_szBoolSS_b5]
    by_cases hlt : i < a.length
    · rw [cdt (by omega), atI_lt a i hlt, Option.bind_some, szBoolS_eq _ _ (hx _ (List.getElem_mem hlt)) h0 h1, Option.bind_some, wr (n := (i : Int) + 1) (by omega) (by omega)]
      by_cases hl : (a[i].length : Int) ≤ l
      · rw [if_pos hl, cdf (by omega)]
        obtain ⟨v, hv, hv2⟩ := szBoolSS_l N n a (l - a[i].length) (i + 1) (by omega) (by omega) hb (by omega) (by omega) hx
        rw [show ((i : Int) + 1) = ((i + 1 : Nat) : Int) by omega]
        refine ⟨v, hv, fun h x hx' => ?_⟩
        rw [List.drop_eq_getElem_cons hlt] at hx'
        rcases List.mem_cons.1 hx' with rfl | hx'
        · omega
        · exact hv2 h x hx'
      · rw [if_neg hl, cdt (by omega)]
        exact ⟨_, rfl, by omega⟩
    · rw [cdf (by omega), List.drop_eq_nil_of_le (by omega)]
      exact ⟨_, rfl, by simp⟩

theorem szBoolSS_eq (a : List (List Bool)) (ha : a.length ≤ 9223372036854775807) (hx : ∀ x ∈ a, x.length ≤ 9223372036854775807) : ∃ v, laws_szBoolSS big a 1048576 = some (v, ()) ∧ (0 ≤ v → a.length ≤ 1048576 ∧ ∀ x ∈ a, x.length ≤ 1048576) := by
  have hb := big_ge
  unfold laws_szBoolSS laws_szBoolSS_s
  rw [wr (by omega) (by omega)]
  by_cases h : a.length ≤ 1048576
  · rw [cdf (by omega)]
    unfold laws_szBoolSS_F5
    obtain ⟨v, hv, hv2⟩ := szBoolSS_l big big a (1048576 - a.length) 0 (by omega) (by omega) h (by omega) (by omega) hx
    exact ⟨v, hv, fun h0 => ⟨h, by simpa using hv2 h0⟩⟩
  · rw [cdt (by omega)]
    exact ⟨_, rfl, by omega⟩

/-! contexts -/
def cw : List (List Bool) → Nat
  | [] => 0
  | r :: _ => r.length

def isCtx (c : List (List Bool)) : Bool := decide (c.length ≤ 6) && c.all fun r => decide (r.length ≤ 6) && decide (r.length = cw c)

theorem specCtx_l (N : Nat) : ∀ (n : Nat) (c : List (List Bool)) (i : Nat), c.length - i < n → i ≤ c.length → c.length ≤ 6 →
    spec_l30Context_l4 N spec_l30Context_a4 n c i = some ((c.drop i).all fun r => decide (r.length ≤ 6) && decide (r.length = cw c), ())
  | 0, _, _, h, _, _ => by omega
  | n + 1, c, i, h, hi, hb => by
    simp only [spec_l30Context_l4, spec_l30Context_b4]
    by_cases hlt : i < c.length
    · obtain ⟨r0, h0, h00⟩ : ∃ r0, atI c (0 : Int) = some r0 ∧ r0.length = cw c := by
        cases c with
        | nil => simp at hlt
        | cons r c => exact ⟨r, atI_lt (r :: c) 0 (by simp), rfl⟩
      rw [cdt (by omega), atI_lt c i hlt, Option.bind_some, Option.bind_some, h0, Option.bind_some, h00, wr (by omega) (by omega)]
      rw [show ((i : Int) + 1) = ((i + 1 : Nat) : Int) by omega, specCtx_l N n c (i + 1) (by omega) (by omega) hb]
      rw [List.drop_eq_getElem_cons hlt, List.all_cons]
      by_cases h6 : c[i].length ≤ 6
      · rw [cdf (by omega)]
        by_cases he : c[i].length = cw c
        · rw [cdf (by omega)]; simp [← he, h6]
        · rw [cdt (by omega)]; rw [decide_eq_false he]; simp
      · rw [cdt (by omega)]; simp [h6]
    · rw [cdf (by omega), List.drop_eq_nil_of_le (by omega)]
      rfl

theorem specCtx_eq (c : List (List Bool)) : spec_l30Context big c = some (isCtx c, ()) := by
  have hb := big_ge
  unfold spec_l30Context spec_l30Context_s isCtx
  by_cases h : c.length ≤ 6
  · rw [cdf (by omega)]
    unfold spec_l30Context_F4
    refine Eq.trans (specCtx_l big big c 0 (by omega) (by omega) h) ?_
    simp [h]
  · rw [cdt (by omega)]; simp [h]

theorem columnsOf_eq (c : List (List Bool)) : impl_columnsOf c = some ((cw c : Int), ()) := by
  unfold impl_columnsOf impl_columnsOf_s
  cases c with
  | nil => rfl
  | cons r c =>
    rw [cdf (by simp; omega)]
    have := atI_lt (r :: c) 0 (by simp)
    rw [show atI (r :: c) (0 : Int) = some r from this]
    rfl

theorem implCtx_l (N : Nat) : ∀ (n : Nat) (c : List (List Bool)) (i : Nat), c.length - i < n → i ≤ c.length → c.length ≤ 6 →
    impl_IsContext_l4 N impl_IsContext_a4 n c c (c.length : Int) i = some ((c.drop i).all fun r => decide (r.length = cw c), ())
  | 0, _, _, h, _, _ => by omega
  | n + 1, c, i, h, hi, hb => by
    simp only [impl_IsContext_l4, impl_IsContext_b4]
    by_cases hlt : i < c.length
    · rw [cdt (by omega), atI_lt c i hlt, Option.bind_some, columnsOf_eq, Option.bind_some, wr (by omega) (by omega)]
      rw [show ((i : Int) + 1) = ((i + 1 : Nat) : Int) by omega, implCtx_l N n c (i + 1) (by omega) (by omega) hb]
      rw [List.drop_eq_getElem_cons hlt, List.all_cons]
      by_cases he : c[i].length = cw c
      · rw [cdf (by omega)]; rw [decide_eq_true he]; simp
      · rw [cdt (by omega)]; rw [decide_eq_false he]; simp
    · rw [cdf (by omega), List.drop_eq_nil_of_le (by omega)]
      rfl

theorem implCtx_eq (c : List (List Bool)) : impl_IsContext big c = some (isCtx c, ()) := by
  have hb := big_ge
  unfold impl_IsContext impl_IsContext_s isCtx
  by_cases h : c.length ≤ 6
  · rw [cdf (by omega), columnsOf_eq, Option.bind_some]
    by_cases h6 : cw c ≤ 6
    · rw [cdf (by omega)]
      unfold impl_IsContext_F4
      refine Eq.trans (implCtx_l big big c 0 (by omega) (by omega) h) ?_
      simp only [List.drop_zero, h, decide_true, Bool.true_and]
      congr 2
      congr 1
      funext r
      by_cases he : r.length = cw c
      · rw [decide_eq_true he, decide_eq_true (show r.length ≤ 6 by omega)]; rfl
      · rw [decide_eq_false he]; simp
    · rw [cdt (by omega)]
      cases c with
      | nil => simp [cw] at h6
      | cons r c =>
        simp only [cw] at h6
        simp [h6]
  · rw [cdt (by omega)]; simp [h]

theorem true_IsContext (c : List (List Bool)) (hw : Wf (.pair (.sl (.sl .bool)) .unit) (c, ())) : laws_FnExactIsContext c = some (true, ()) := by
  simp only [Wf, maxLen] at hw
  obtain ⟨v, hv, hv2⟩ := szBoolSS_eq c hw.1.1 fun x hx => (hw.1.2 x hx).1
  unfold laws_FnExactIsContext laws_FnExactIsContext_s
  rw [hv, Option.bind_some]
  by_cases h : v < 0
  · rw [cdt h]
  · obtain ⟨h1, h2⟩ := hv2 (by omega)
    have h3 : ∀ x ∈ c, x.length ≤ 4294967296 := fun x hx => by have := h2 x hx; omega
    rw [cdf h]
    have hs : spec_IsContext c = some (isCtx c, ()) := by
      unfold spec_IsContext spec_IsContext_s
      rw [specCtx_eq]; rfl
    simp only [toBoolSS_eq c (by omega) h3, Option.bind_some, hs, implCtx_eq, eqBoolSS_eq c c (by omega) h3]
    simp

end Go.Proofs.Ytpomjejencfiiaa
