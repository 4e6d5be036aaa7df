import Derived.Test.YtcfhllnenhfigaaPTab
import Derived.Test.YtcfhllnenhfigaaHA
import Derived.KernelRfl
set_option linter.unusedVariables false
set_option linter.unusedSimpArgs false
namespace Go.Proofs.Ytcfhllnenhfigaa
open Go Go.Gx Go.Proofs

def we : List Int → Nat → Nat → Option Nat
  | _, 0, c => some c
  | [], _ + 1, _ => none
  | x :: xs, n + 1, c => if x < -2 ∨ 5 ≤ x then none else if 0 ≤ x then we xs n (c + 1) else we xs (n + 2) (c + 1)

theorem we_zero (xs : List Int) (c : Nat) : we xs 0 c = some c := by cases xs <;> rfl

def wEnd (w : List Int) (i : Nat) : Int := match we (w.drop i) 1 i with
  | some e => e
  | none => -1

theorem wordEnd_l (N : Nat) (k : Int → Option (Int × Unit)) : ∀ (n : Nat) (w : List Int) (i need : Nat), w.length - i + 1 < n → i ≤ w.length → need + (w.length - i) ≤ 4611686018427387904 → w.length ≤ 4611686018427387904 →
    impl_wordEnd_l2 N k n w i need = match we (w.drop i) need i with | some e => k e | none => some (-1, ())
  | 0, _, _, _, h, _, _, _ => by omega
  | n + 1, w, i, need, h, hi, hn, hb => by
    simp only [impl_wordEnd_l2, impl_wordEnd_b2]
    cases need with
    | zero => rw [cdf (by omega), we_zero]
    | succ need =>
      rw [cdt (by omega)]
      by_cases hlt : i < w.length
      · rw [cdf (by omega), atI_lt w i hlt, Option.bind_some, Option.bind_some, Option.bind_some, wr (n := (i : Int) + 1) (by omega) (by omega), wr (n := ((need + 1 : Nat) : Int) - 1) (by omega) (by omega), wr (n := ((need + 1 : Nat) : Int) + 1) (by omega) (by omega)]
        have h1 := wordEnd_l N k n w (i + 1) need (by omega) (by omega) (by omega) hb
        have h2 := wordEnd_l N k n w (i + 1) (need + 2) (by omega) (by omega) (by omega) hb
        rw [show ((i : Int) + 1) = ((i + 1 : Nat) : Int) by omega, show (((need + 1 : Nat) : Int) - 1) = (need : Int) by omega, show (((need + 1 : Nat) : Int) + 1) = ((need + 2 : Nat) : Int) by omega, h1, h2]
        rw [List.drop_eq_getElem_cons hlt]
        simp only [we]
        by_cases c1 : w[i] < -2
        · rw [cdt c1, if_pos (.inl c1)]
        · rw [cdf c1]
          by_cases c2 : 5 ≤ w[i]
          · rw [cdt c2, if_pos (.inr c2)]
          · rw [cdf c2, if_neg (by omega)]
            by_cases c3 : 0 ≤ w[i]
            · rw [cdt c3, if_pos c3]
            · rw [cdf c3, if_neg c3]
      · rw [cdt (by omega), List.drop_eq_nil_of_le (by omega)]
        rfl

theorem wordEnd_eq (w : List Int) (i : Nat) (hi : i ≤ w.length) (hb : w.length ≤ 1000000000) : impl_wordEnd big w i = some (wEnd w i, ()) := by
  have hg := big_ge
  unfold impl_wordEnd impl_wordEnd_s impl_wordEnd_F2
  have := wordEnd_l big impl_wordEnd_a2 big w i 1 (by omega) hi (by omega) (by omega)
  rw [show (1 : Int) = ((1 : Nat) : Int) from rfl, this]
  unfold wEnd
  cases we (w.drop i) 1 i <;> rfl

theorem l1In_eq (x a b : Int) : spec_l1In x a b = some (decide (a ≤ x ∧ x ≤ b), ()) := by
  unfold spec_l1In spec_l1In_s
  by_cases h : a ≤ x <;> simp [h]

theorem l28End_l (N : Nat) : ∀ (n : Nat) (w : List Int) (i o : Nat), w.length - i < n → i ≤ w.length → o + 1 + (w.length - i) ≤ 4611686018427387904 → w.length ≤ 4611686018427387904 →
    spec_l28End_l3 N spec_l28End_a3 n w ((o + 1 : Nat) : Int) i = some (match we (w.drop i) (o + 1) i with | some e => e | none => -1, ())
  | 0, _, _, _, h, _, _, _ => by omega
  | n + 1, w, i, o, h, hi, hn, hb => by
    simp only [spec_l28End_l3, spec_l28End_b3]
    by_cases hlt : i < w.length
    · rw [cdt (by omega), atI_lt w i hlt]
      simp only [Option.bind_some, l1In_eq]
      rw [wr (n := (i : Int) + 1) (by omega) (by omega), wr (n := ((o + 1 : Nat) : Int) - 1) (by omega) (by omega), wr (n := ((o + 1 : Nat) : Int) + 1) (by omega) (by omega)]
      have h2 := l28End_l N n w (i + 1) (o + 1) (by omega) (by omega) (by omega) hb
      rw [show ((i : Int) + 1) = ((i + 1 : Nat) : Int) by omega, show (((o + 1 : Nat) : Int) + 1) = ((o + 1 + 1 : Nat) : Int) by omega, h2]
      rw [List.drop_eq_getElem_cons hlt]
      simp only [we]
      rw [cdf (show ¬ (((o + 1 + 1 : Nat) : Int) = 0) by omega)]
      by_cases c1 : w[i] = -1
      · rw [cdt c1, if_neg (by omega), if_neg (by omega)]
      · rw [cdf c1]
        by_cases c2 : w[i] = -2
        · rw [cdt c2, if_neg (by omega), if_neg (by omega)]
        · rw [cdf c2]
          by_cases c3 : 0 ≤ w[i] ∧ w[i] ≤ 4
          · rw [cdt c3, if_neg (by omega), if_pos c3.1]
            cases o with
            | zero => rw [cdt (by omega), we_zero]
            | succ o =>
              have h1 := l28End_l N n w (i + 1) o (by omega) (by omega) (by omega) hb
              rw [cdf (by omega), show (((o + 1 + 1 : Nat) : Int) - 1) = ((o + 1 : Nat) : Int) by omega, h1]
          · rw [cdf c3, if_pos (by omega)]
    · rw [cdf (by omega), List.drop_eq_nil_of_le (by omega)]
      rfl

theorem l28End_eq (w : List Int) (i : Nat) (hi : i ≤ w.length) (hb : w.length ≤ 1000000000) : spec_l28End big w i = some (wEnd w i, ()) := by
  have hg := big_ge
  unfold spec_l28End spec_l28End_s spec_l28End_F3
  have := l28End_l big big w i 0 (by omega) hi (by omega) (by omega)
  rw [show (1 : Int) = ((0 + 1 : Nat) : Int) from rfl, this]
  rfl

def isWord (w : List Int) : Bool := decide (w.length ≤ 40) && decide (wEnd w 0 = w.length)

theorem implIsWord_eq (w : List Int) : impl_IsWord w = some (isWord w, ()) := by
  unfold impl_IsWord impl_IsWord_s isWord
  by_cases h : w.length ≤ 40
  · rw [cdt (by omega), show (0 : Int) = ((0 : Nat) : Int) from rfl, wordEnd_eq w 0 (by omega) (by omega), Option.bind_some]
    simp [h]
  · rw [cdf (by omega)]
    simp [h]

theorem l28Good_eq (w : List Int) : spec_l28Good w = some (isWord w, ()) := by
  unfold spec_l28Good spec_l28Good_s isWord
  by_cases h : w.length ≤ 40
  · rw [cdt (by omega), show (0 : Int) = ((0 : Nat) : Int) from rfl, l28End_eq w 0 (by omega) (by omega), Option.bind_some]
    by_cases he : wEnd w 0 = w.length
    · rw [cdt he]
      have : 0 < w.length := by
        rcases Nat.eq_zero_or_pos w.length with h0 | h0
        · have : w = [] := List.eq_nil_of_length_eq_zero h0
          subst this
          simp [wEnd, we] at he
        · exact h0
      simp [h, he]; omega
    · rw [cdf he]; simp [h, he]
  · rw [cdf (by omega)]
    simp [h]

theorem we_append : ∀ (s t : List Int) (n m c : Nat), we s n c = some (c + s.length) → we (s ++ t) (n + m) c = we t m (c + s.length)
  | [], t, n, m, c, h => by
    cases n with
    | zero => simp
    | succ n => simp [we] at h
  | x :: xs, t, 0, m, c, h => by simp [we] at h
  | x :: xs, t, n + 1, m, c, h => by
    simp only [we] at h
    split at h
    · cases h
    rename_i hx
    rw [show n + 1 + m = (n + m) + 1 by omega]
    simp only [List.cons_append, we]
    rw [if_neg hx]
    simp only [List.length_cons] at h ⊢
    split at h
    · rename_i h0
      rw [if_pos h0, we_append xs t n m (c + 1) (by rw [h]; congr 1; omega)]
      congr 1; omega
    · rename_i h0
      rw [if_neg h0, show n + m + 2 = (n + 2) + m by omega, we_append xs t (n + 2) m (c + 1) (by rw [h]; congr 1; omega)]
      congr 1; omega

theorem we_shift : ∀ (s : List Int) (n c d : Nat), we s n (c + d) = (we s n c).map (· + d)
  | s, 0, c, d => by simp [we_zero]
  | [], n + 1, c, d => by simp [we]
  | x :: xs, n + 1, c, d => by
    simp only [we]
    rw [show c + d + 1 = (c + 1) + d by omega, we_shift xs n (c + 1) d, we_shift xs (n + 2) (c + 1) d]
    split
    · rfl
    · split <;> rfl

theorem we_mem : ∀ (s : List Int) (n c : Nat), we s n c = some (c + s.length) → ∀ x ∈ s, -2 ≤ x ∧ x < 5
  | [], _, _, _, x, hx => by cases hx
  | y :: ys, 0, c, h, _, _ => by simp [we] at h
  | y :: ys, n + 1, c, h, x, hx => by
    simp only [we] at h
    split at h
    · cases h
    rename_i hy
    simp only [List.length_cons] at h
    rcases List.mem_cons.1 hx with rfl | hx
    · omega
    · split at h
      · exact we_mem ys n (c + 1) (by rw [h]; congr 1; omega) x hx
      · exact we_mem ys (n + 2) (c + 1) (by rw [h]; congr 1; omega) x hx

theorem isWord_iff (w : List Int) : isWord w = true ↔ w.length ≤ 40 ∧ we w 1 0 = some w.length := by
  unfold isWord wEnd
  simp only [List.drop_zero, Bool.and_eq_true, decide_eq_true_eq]
  refine and_congr Iff.rfl ?_
  cases h : we w 1 0 with
  | none => simp
  | some e => simp; omega

theorem isWord_len {w : List Int} (h : isWord w = true) : w.length ≤ 40 := ((isWord_iff w).1 h).1

theorem l28Two_eq (s t : List Int) : spec_l28Two s t = some (isWord s && isWord t, ()) := by
  unfold spec_l28Two spec_l28Two_s
  rw [l28Good_eq, l28Good_eq, Option.bind_some, Option.bind_some]
  cases isWord s <;> rfl

theorem areWords_eq (s t : List Int) : impl_areWords s t = some (isWord s && isWord t, ()) := by
  unfold impl_areWords impl_areWords_s
  rw [implIsWord_eq, implIsWord_eq, Option.bind_some, Option.bind_some]
  cases isWord s <;> rfl

theorem l28Give_eq (w : List Int) : spec_l28Give w = some ((if isWord w then (w, true, ()) else ([], false, ())), ()) := by
  unfold spec_l28Give spec_l28Give_s
  rw [l28Good_eq, Option.bind_some]
  cases isWord w <;> rfl

theorem clone_eq (w : List Int) (h : w.length ≤ 4294967296) : impl_clone w = some (w, ()) := by
  unfold impl_clone impl_clone_s
  rw [appI_ok (by simp; omega), Option.bind_some]
  simp

theorem isWord_mem {w : List Int} (h : isWord w = true) : ∀ x ∈ w, -2 ≤ x ∧ x < 5 := by
  rw [isWord_iff] at h
  exact we_mem w 1 0 (by rw [h.2]; simp)

def subst (l : Int) (s : List Int) : List Int → List Int
  | [] => []
  | x :: xs => if x = l then s ++ subst l s xs else x :: subst l s xs

theorem we_subst {l : Int} {s : List Int} (hl : 0 ≤ l) (hs : we s 1 0 = some s.length) : ∀ (w : List Int) (n c c' : Nat), we w n c = some (c + w.length) → we (subst l s w) n c' = some (c' + (subst l s w).length)
  | [], n, c, c', h => by
    cases n with
    | zero => simp [subst, we]
    | succ n => simp [we] at h
  | x :: xs, 0, c, c', h => by simp [we] at h
  | x :: xs, n + 1, c, c', h => by
    simp only [we] at h
    split at h
    · cases h
    rename_i hx
    simp only [List.length_cons] at h
    simp only [subst]
    split
    · rename_i he
      subst he
      rw [if_pos hl] at h
      have e1 : we s 1 c' = some (c' + s.length) := by
        have := we_shift s 1 0 c'
        rw [Nat.zero_add, hs] at this
        rw [this]; simp [Nat.add_comm]
      have e2 := we_append s (subst x s xs) 1 n c' e1
      rw [show n + 1 = 1 + n by omega, e2]
      have := we_subst hl hs xs n (c + 1) (c' + s.length) (by rw [h]; congr 1; omega)
      rw [this]
      simp; omega
    · rename_i he
      simp only [we]
      rw [if_neg hx]
      split at h
      · rename_i h0
        rw [if_pos h0, we_subst hl hs xs n (c + 1) (c' + 1) (by rw [h]; congr 1; omega)]
        simp; omega
      · rename_i h0
        rw [if_neg h0, we_subst hl hs xs (n + 2) (c + 1) (c' + 1) (by rw [h]; congr 1; omega)]
        simp; omega

theorem isWord_subst {l : Int} {w s : List Int} (hl : 0 ≤ l) (hw : isWord w = true) (hs : isWord s = true) : isWord (subst l s w) = decide ((subst l s w).length ≤ 40) := by
  rw [isWord_iff] at hw hs
  rw [Bool.eq_iff_iff, isWord_iff, decide_eq_true_eq]
  have := we_subst hl hs.2 w 1 0 0 (by rw [hw.2]; simp)
  rw [Nat.zero_add] at this
  rw [this]
  simp

theorem specSubst_l (N : Nat) (k : List Int → Option ((List Int × (Bool × Unit)) × Unit)) (l : Int) (s : List Int) (hs : s.length ≤ 40) : ∀ (n : Nat) (w out : List Int) (i : Nat), w.length - i < n → i ≤ w.length → w.length ≤ 40 → out.length ≤ 40 * i →
    spec_SubstituteWord_l5 N k n w l s out i = k (out ++ subst l s (w.drop i))
  | 0, _, _, _, h, _, _, _ => by omega
  | n + 1, w, out, i, h, hi, hb, ho => by
    simp only [spec_SubstituteWord_l5, spec_SubstituteWord_b5]
    by_cases hlt : i < w.length
    · rw [cdt (by omega), atI_lt w i hlt, Option.bind_some, Option.bind_some, appI_ok (by omega), appI_ok (by simp; omega), Option.bind_some, Option.bind_some, wr (n := (i : Int) + 1) (by omega) (by omega)]
      rw [show ((i : Int) + 1) = ((i + 1 : Nat) : Int) by omega, List.drop_eq_getElem_cons hlt]
      simp only [subst]
      by_cases hx : w[i] = l
      · rw [cdt hx, if_pos hx, specSubst_l N k l s hs n w (out ++ s) (i + 1) (by omega) (by omega) hb (by simp; omega), List.append_assoc]
      · rw [cdf hx, if_neg hx, specSubst_l N k l s hs n w (out ++ [w[i]]) (i + 1) (by omega) (by omega) hb (by simp; omega), List.append_assoc]
        rfl
    · rw [cdf (by omega), List.drop_eq_nil_of_le (by omega)]
      simp [subst]

theorem implSubst_l (N : Nat) (k : List Int → Option ((List Int × (Bool × Unit)) × Unit)) (l : Int) (s : List Int) (hs : s.length ≤ 40) : ∀ (n : Nat) (w out : List Int) (i : Nat), w.length - i < n → i ≤ w.length → w.length ≤ 40 → out.length ≤ 40 * i →
    impl_SubstituteWord_l5 N k n l s out w (w.length : Int) i = k (out ++ subst l s (w.drop i))
  | 0, _, _, _, h, _, _, _ => by omega
  | n + 1, w, out, i, h, hi, hb, ho => by
    simp only [impl_SubstituteWord_l5, impl_SubstituteWord_b5]
    by_cases hlt : i < w.length
    · rw [cdt (by omega), atI_lt w i hlt, Option.bind_some, appI_ok (by omega), appI_ok (by simp; omega), Option.bind_some, Option.bind_some, wr (n := (i : Int) + 1) (by omega) (by omega)]
      rw [show ((i : Int) + 1) = ((i + 1 : Nat) : Int) by omega, List.drop_eq_getElem_cons hlt]
      simp only [subst]
      by_cases hx : w[i] = l
      · rw [cdt hx, if_pos hx, implSubst_l N k l s hs n w (out ++ s) (i + 1) (by omega) (by omega) hb (by simp; omega), List.append_assoc]
      · rw [cdf hx, if_neg hx, implSubst_l N k l s hs n w (out ++ [w[i]]) (i + 1) (by omega) (by omega) hb (by simp; omega), List.append_assoc]
        rfl
    · rw [cdf (by omega), List.drop_eq_nil_of_le (by omega)]
      simp [subst]

def substV (w : List Int) (l : Int) (s : List Int) : List Int × Bool × Unit := if isWord w && isWord s && decide (0 ≤ l ∧ l ≤ 4) && decide ((subst l s w).length ≤ 40) then (subst l s w, true, ()) else ([], false, ())

theorem specSubst_eq (w : List Int) (l : Int) (s : List Int) : spec_SubstituteWord big w l s = some (substV w l s, ()) := by
  have hg := big_ge
  unfold spec_SubstituteWord spec_SubstituteWord_s substV
  rw [l28Two_eq, Option.bind_some, l1In_eq, Option.bind_some]
  cases h : isWord w && isWord s with
  | false => simp
  | true =>
    simp only [Bool.and_eq_true] at h
    have h1 := isWord_len h.1
    have h2 := isWord_len h.2
    by_cases hl : 0 ≤ l ∧ l ≤ 4
    · unfold spec_SubstituteWord_F5
      have := specSubst_l big spec_SubstituteWord_a5 l s h2 big w [] 0 (by omega) (by omega) h1 (by simp)
      simp only [Bool.not_true, cond_false, hl, and_self, decide_true, Bool.true_and]
      refine Eq.trans this ?_
      simp only [List.drop_zero, List.nil_append, spec_SubstituteWord_a5, l28Give_eq, Option.bind_some, isWord_subst hl.1 h.1 h.2]
    · simp [hl]

theorem implSubst_eq (w : List Int) (l : Int) (s : List Int) : impl_SubstituteWord big w l s = some (substV w l s, ()) := by
  have hg := big_ge
  unfold impl_SubstituteWord impl_SubstituteWord_s substV
  rw [areWords_eq, Option.bind_some]
  cases h : isWord w && isWord s with
  | false => simp
  | true =>
    simp only [Bool.and_eq_true] at h
    have h1 := isWord_len h.1
    have h2 := isWord_len h.2
    by_cases hl : 0 ≤ l ∧ l ≤ 4
    · unfold impl_SubstituteWord_F5
      have := implSubst_l big impl_SubstituteWord_a5 l s h2 big w [] 0 (by omega) (by omega) h1 (by simp)
      simp only [Bool.not_true, cond_false, hl, and_self, decide_true, Bool.true_and]
      rw [cdf (by omega), cdf (by omega)]
      refine Eq.trans this ?_
      simp only [List.drop_zero, List.nil_append, impl_SubstituteWord_a5, cd, decide_eq_true_eq]
      by_cases hq : (subst l s w).length ≤ 40
      · rw [if_neg (by omega), if_pos hq]
      · rw [if_pos (by omega), if_neg hq]
    · simp only [Bool.not_true, cond_false, cd]
      by_cases h0 : l < 0
      · rw [if_pos h0]; simp [hl]
      · rw [if_neg h0, if_pos (by omega)]; simp [hl]

theorem substV_len (w : List Int) (l : Int) (s : List Int) : (substV w l s).1.length ≤ 40 := by
  unfold substV
  split
  · rename_i h; simp at h ⊢; omega
  · simp

theorem we_split : ∀ (xs : List Int) (n m c E : Nat), we xs (n + m) c = some E → ∃ e, we xs n c = some e ∧ c ≤ e ∧ e - c ≤ xs.length ∧ we (xs.drop (e - c)) m e = some E
  | xs, 0, m, c, E, h => ⟨c, we_zero xs c, by omega, by omega, by simpa using h⟩
  | [], n + 1, m, c, E, h => by
    rw [show n + 1 + m = (n + m) + 1 by omega] at h
    simp [we] at h
  | x :: xs, n + 1, m, c, E, h => by
    rw [show n + 1 + m = (n + m) + 1 by omega] at h
    simp only [we] at h ⊢
    split at h
    · cases h
    rename_i hx
    rw [if_neg hx]
    split at h
    · rename_i h0
      obtain ⟨e, h1, h2, h3, h4⟩ := we_split xs n m (c + 1) E h
      rw [if_pos h0]
      refine ⟨e, h1, by omega, by simp; omega, ?_⟩
      rw [show e - c = (e - (c + 1)) + 1 by omega, List.drop_succ_cons]
      exact h4
    · rename_i h0
      rw [show n + m + 2 = (n + 2) + m by omega] at h
      obtain ⟨e, h1, h2, h3, h4⟩ := we_split xs (n + 2) m (c + 1) E h
      rw [if_neg h0]
      refine ⟨e, h1, by omega, by simp; omega, ?_⟩
      rw [show e - c = (e - (c + 1)) + 1 by omega, List.drop_succ_cons]
      exact h4

theorem we_le : ∀ (xs : List Int) (n c e : Nat), we xs n c = some e → c ≤ e
  | xs, 0, c, e, h => by rw [we_zero] at h; cases h; omega
  | [], n + 1, c, e, h => by simp [we] at h
  | x :: xs, n + 1, c, e, h => by
    simp only [we] at h
    split at h
    · cases h
    split at h
    · have := we_le xs n (c + 1) e h; omega
    · have := we_le xs (n + 2) (c + 1) e h; omega

theorem we_take : ∀ (xs : List Int) (n c e : Nat), we xs n c = some e → we (xs.take (e - c)) n c = some e
  | xs, 0, c, e, h => by rw [we_zero] at h ⊢; exact h
  | [], n + 1, c, e, h => by simp [we] at h
  | x :: xs, n + 1, c, e, h => by
    simp only [we] at h
    split at h
    · cases h
    rename_i hx
    split at h
    · rename_i h0
      have h1 := we_le xs n (c + 1) e h
      rw [show e - c = (e - (c + 1)) + 1 by omega, List.take_succ_cons]
      simp only [we]
      rw [if_neg hx, if_pos h0]
      exact we_take xs n (c + 1) e h
    · rename_i h0
      have h1 := we_le xs (n + 2) (c + 1) e h
      rw [show e - c = (e - (c + 1)) + 1 by omega, List.take_succ_cons]
      simp only [we]
      rw [if_neg hx, if_neg h0]
      exact we_take xs (n + 2) (c + 1) e h

theorem we_back {s : List Int} {c : Nat} (h : we s 1 c = some (c + s.length)) : we s 1 0 = some s.length := by
  have := we_shift s 1 0 c
  rw [Nat.zero_add, h] at this
  cases hw : we s 1 0 with
  | none => rw [hw] at this; cases this
  | some e =>
    rw [hw] at this
    simp only [Option.map_some, Option.some.injEq] at this
    congr 1
    omega

theorem parts_eq {x : Int} {xs : List Int} {e : Nat} (hb : xs.length ≤ 1000000) (h : we xs 1 1 = some e) (h2 : e - 1 ≤ xs.length) :
    spec_l28Parts (x :: xs) = some ((xs.take (e - 1), xs.drop (e - 1), ()), ()) ∧ impl_partsOf (x :: xs) = some ((xs.take (e - 1), xs.drop (e - 1), ()), ()) := by
  have he := we_le _ _ _ _ h
  have hw : wEnd (x :: xs) 1 = (e : Int) := by
    unfold wEnd
    simp only [List.drop_succ_cons, List.drop_zero, h]
  have s1 : slI (x :: xs) ((1 : Nat) : Int) (e : Int) = some (xs.take (e - 1)) := by
    have := slI_nat (x :: xs) 1 e (by omega) (by simp; omega)
    rw [this]
    simp
  have s2 : slI (x :: xs) (e : Int) ((x :: xs).length : Int) = some (xs.drop (e - 1)) := by
    have := slI_nat (x :: xs) e (x :: xs).length (by simp; omega) (by simp)
    rw [this]
    rw [List.take_of_length_le (by simp)]
    rw [show e = (e - 1) + 1 by omega, List.drop_succ_cons]
    simp
  constructor
  · unfold spec_l28Parts spec_l28Parts_s
    rw [show (1 : Int) = ((1 : Nat) : Int) from rfl, l28End_eq _ 1 (by simp) (by simp; omega), Option.bind_some, hw]
    rw [s1, Option.bind_some, s2, Option.bind_some]
  · unfold impl_partsOf impl_partsOf_s
    rw [show (1 : Int) = ((1 : Nat) : Int) from rfl, wordEnd_eq _ 1 (by simp) (by simp; omega), Option.bind_some, hw]
    rw [s1, Option.bind_some, s2, Option.bind_some]

structure Ord (n : Nat) (le : Nat → Nat → Bool) : Prop where
  refl : ∀ x, x < n → le x x = true
  anti : ∀ x y, x < n → y < n → x ≠ y → le x y = true → le y x = false
  trans : ∀ x y z, x < n → y < n → z < n → le x y = true → le y z = true → le x z = true

abbrev du (le : Nat → Nat → Bool) : Nat → Nat → Bool := fun x y => le y x

def low (n : Nat) (le : Nat → Nat → Bool) (S : List Nat) : List Nat := fl n fun z => S.all fun s => le z s

def grt (le : Nat → Nat → Bool) (L : List Nat) : Int := match L.find? fun x => L.all fun y => le y x with
  | some x => (x : Int)
  | none => -1

def bnd (n : Nat) (le : Nat → Nat → Bool) (S : List Nat) : Int := grt le (low n le S)

structure IsGlb (n : Nat) (le : Nat → Nat → Bool) (S : List Nat) (m : Nat) : Prop where
  lt : m < n
  lo : ∀ s ∈ S, le m s = true
  gr : ∀ z, z < n → (∀ s ∈ S, le z s = true) → le z m = true

theorem low_mem {n : Nat} {le : Nat → Nat → Bool} {S : List Nat} {z : Nat} : z ∈ low n le S ↔ z < n ∧ ∀ s ∈ S, le z s = true := by
  unfold low
  rw [fl_mem, List.all_eq_true]

theorem glb_of_bnd {n : Nat} {le : Nat → Nat → Bool} {S : List Nat} (h : 0 ≤ bnd n le S) : IsGlb n le S (bnd n le S).toNat := by
  unfold bnd grt at *
  cases hf : (low n le S).find? fun x => (low n le S).all fun y => le y x with
  | none => rw [hf] at h; exact absurd h (by decide)
  | some x =>
    have h1 := List.find?_some hf
    have h2 := low_mem.1 (List.mem_of_find?_eq_some hf)
    simp only [Int.toNat_natCast]
    exact ⟨h2.1, h2.2, fun z hz hs => List.all_eq_true.1 h1 z (low_mem.2 ⟨hz, hs⟩)⟩

structure Lat (n : Nat) (le : Nat → Nat → Bool) : Prop where
  ne : 0 < n
  meet : ∀ x y, x < n → y < n → 0 ≤ bnd n le [x, y]
  join : ∀ x y, x < n → y < n → 0 ≤ bnd n (du le) [x, y]

def mt (n : Nat) (le : Nat → Nat → Bool) (x y : Nat) : Nat := (bnd n le [x, y]).toNat

def lat (n : Nat) (le : Nat → Nat → Bool) : List (List Bool) × List (List Int) × List (List Int) × Unit :=
  (mkT n le, mkT n (fun x y => ((mt n le x y : Nat) : Int)), mkT n (fun x y => ((mt n (du le) x y : Nat) : Int)), ())

structure LatP (n : Nat) (le : Nat → Nat → Bool) : Prop where
  le10 : n ≤ 10
  ord : Ord n le
  lat : Lat n le

theorem Ord.du {n : Nat} {le : Nat → Nat → Bool} (h : Ord n le) : Ord n (du le) where
  refl := h.refl
  anti x y hx hy hxy h1 := by
    have h3 : le y x = true := h1
    show le x y = false
    by_cases h2 : le x y = true
    · rw [h.anti x y hx hy hxy h2] at h3; cases h3
    · simpa using h2
  trans x y z hx hy hz h1 h2 := h.trans z y x hz hy hx h2 h1

theorem LatP.du {n : Nat} {le : Nat → Nat → Bool} (h : LatP n le) : LatP n (du le) := ⟨h.le10, Ord.du h.ord, h.lat.ne, h.lat.join, h.lat.meet⟩

theorem LatP.glb {n : Nat} {le : Nat → Nat → Bool} (h : LatP n le) {x y : Nat} (hx : x < n) (hy : y < n) : IsGlb n le [x, y] (mt n le x y) := glb_of_bnd (h.lat.meet x y hx hy)

theorem LatP.m1 {n : Nat} {le : Nat → Nat → Bool} (h : LatP n le) {x y : Nat} (hx : x < n) (hy : y < n) : le (mt n le x y) x = true := (h.glb hx hy).lo x (by simp)

theorem LatP.m2 {n : Nat} {le : Nat → Nat → Bool} (h : LatP n le) {x y : Nat} (hx : x < n) (hy : y < n) : le (mt n le x y) y = true := (h.glb hx hy).lo y (by simp)

theorem j1 {n : Nat} {le : Nat → Nat → Bool} (h : LatP n le) {x y : Nat} (hx : x < n) (hy : y < n) : le x (mt n (du le) x y) = true := h.du.m1 hx hy

theorem j2 {n : Nat} {le : Nat → Nat → Bool} (h : LatP n le) {x y : Nat} (hx : x < n) (hy : y < n) : le y (mt n (du le) x y) = true := h.du.m2 hx hy

abbrev P2 := Int × Int × Unit

theorem slI_take (l : List Int) (i : Nat) (h : i ≤ l.length) : slI l 0 (i : Int) = some (l.take i) := by
  have := slI_nat l 0 i (by omega) h
  simpa using this

structure Pt (n : Nat) (P : Nat → Nat) : Prop where
  lo : ∀ x, x < n → P x ≤ x
  id : ∀ x, x < n → P (P x) = P x

theorem Pt.lt {n : Nat} {P : Nat → Nat} (h : Pt n P) {x : Nat} (hx : x < n) : P x < n := Nat.lt_of_le_of_lt (h.lo x hx) hx

def Lep (n : Nat) (P C : Nat → Nat) : Prop := ∀ x, x < n → C (P x) = C x

theorem Lep.refl {n : Nat} {P : Nat → Nat} (h : Pt n P) : Lep n P P := h.id

theorem Lep.trans {n : Nat} {P Q C : Nat → Nat} (h : Pt n P) (h1 : Lep n P Q) (h2 : Lep n Q C) : Lep n P C := fun x hx => by
  have e1 := h1 x hx
  have e2 := h2 (P x) (h.lt hx)
  have e3 := h2 x hx
  rw [← e2, e1, e3]

theorem quo_nat {a b : Nat} (hb : 0 < b) (ha : a ≤ 4611686018427387904) : quoI IntKind.i64 (a : Int) (b : Int) = some ((a / b : Nat) : Int) := by
  unfold quoI
  rw [if_neg (by omega), Int.tdiv_eq_ediv_of_nonneg (by omega), ← Int.natCast_ediv, wr (by have := Int.natCast_nonneg (a / b); omega) (by have := Nat.div_le_self a b; generalize a / b = c at *; omega)]

def Wd.hd : Wd → Int
  | .v n => n
  | .op g _ _ => g

theorem we_fl : ∀ (A : Wd), A.ok → ∀ (r : List Int) (n c : Nat), we (A.fl ++ r) (n + 1) c = we r n (c + A.fl.length)
  | .v x, h, r, n, c => by
    simp only [Wd.ok] at h
    simp only [Wd.fl, List.cons_append, List.nil_append, we, List.length_cons, List.length_nil]
    rw [if_neg (by omega), if_pos h.1]
  | .op g a b, h, r, n, c => by
    obtain ⟨hg, ha, hb⟩ := h
    simp only [Wd.fl, List.cons_append, we]
    rw [if_neg (by omega), if_neg (by omega), List.append_assoc, we_fl a ha, we_fl b hb]
    simp only [List.length_cons, List.length_append]
    congr 1
    omega

theorem we_parse : ∀ (m : Nat) (xs : List Int) (n c e : Nat), xs.length ≤ m → we xs (n + 1) c = some e → ∃ A r, A.ok ∧ xs = Wd.fl A ++ r ∧ we r n (c + A.fl.length) = some e
  | _, [], n, c, e, _, h => by simp [we] at h
  | 0, _ :: _, _, _, _, hm, _ => by simp at hm
  | m + 1, x :: xs, n, c, e, hm, h => by
    simp only [List.length_cons] at hm
    simp only [we] at h
    split at h
    · cases h
    rename_i hx
    split at h
    · rename_i h0
      exact ⟨.v x, xs, ⟨h0, by omega⟩, rfl, h⟩
    · rename_i h0
      obtain ⟨A, r1, hA, e1, h1⟩ := we_parse m xs (n + 1) (c + 1) e (by omega) h
      have hl : r1.length ≤ m := by
        have := congrArg List.length e1
        simp only [List.length_append] at this
        omega
      obtain ⟨B, r2, hB, e2, h2⟩ := we_parse m r1 n _ e hl h1
      refine ⟨.op x A B, r2, ⟨by omega, hA, hB⟩, ?_, ?_⟩
      · rw [e1, e2]; simp [Wd.fl]
      · rw [← h2]
        congr 1
        simp [Wd.fl]
        omega

theorem fl_inj : ∀ (A B : Wd), A.ok → B.ok → ∀ (r r' : List Int), A.fl ++ r = B.fl ++ r' → A = B ∧ r = r'
  | .v x, .v y, _, _, r, r', h => by
    simp only [Wd.fl, List.cons_append, List.nil_append, List.cons.injEq] at h
    exact ⟨by rw [h.1], h.2⟩
  | .v x, .op g a b, ha, hb, r, r', h => by
    simp only [Wd.fl, List.cons_append, List.nil_append, List.cons.injEq] at h
    have h1 := ha.1
    have h2 := hb.1
    omega
  | .op g a b, .v x, ha, hb, r, r', h => by
    simp only [Wd.fl, List.cons_append, List.nil_append, List.cons.injEq] at h
    have h1 := ha.1
    have h2 := hb.1
    omega
  | .op g a b, .op g' a' b', ha, hb, r, r', h => by
    simp only [Wd.fl, List.cons_append, List.append_assoc, List.cons.injEq] at h
    obtain ⟨e0, h⟩ := h
    obtain ⟨e1, h⟩ := fl_inj a a' ha.2.1 hb.2.1 _ _ h
    obtain ⟨e2, h⟩ := fl_inj b b' ha.2.2 hb.2.2 _ _ h
    exact ⟨by rw [e0, e1, e2], h⟩

theorem word_tree {w : List Int} (h : isWord w = true) : ∃ A : Wd, A.ok ∧ A.fl = w := by
  obtain ⟨_, h⟩ := (isWord_iff w).1 h
  obtain ⟨A, r, hA, e, h2⟩ := we_parse w.length w 0 0 w.length (Nat.le_refl _) h
  rw [we_zero] at h2
  simp only [Option.some.injEq] at h2
  have := congrArg List.length e
  simp only [List.length_append] at this
  have hr : r = [] := List.eq_nil_of_length_eq_zero (by omega)
  exact ⟨A, hA, by rw [e, hr, List.append_nil]⟩

def wle : Wd → Wd → Bool
  | .v n, .v m => decide (n = m)
  | .v n, .op h c d => if h = -1 then wle (.v n) c && wle (.v n) d else wle (.v n) c || wle (.v n) d
  | .op g a b, .v m => if g = -2 then wle a (.v m) && wle b (.v m) else wle a (.v m) || wle b (.v m)
  | .op g a b, .op h c d => if g = -2 then wle a (.op h c d) && wle b (.op h c d) else if h = -1 then wle (.op g a b) c && wle (.op g a b) d else (wle a (.op h c d) || wle b (.op h c d)) || (wle (.op g a b) c || wle (.op g a b) d)
termination_by A B => A.fl.length + B.fl.length
decreasing_by all_goals (simp [Wd.fl]; try omega)

def At (s : List Int) (i : Nat) (A : Wd) : Prop := A.ok ∧ ∃ r, s.drop i = A.fl ++ r

theorem At.lt {s : List Int} {i : Nat} {A : Wd} (h : At s i A) : i + A.fl.length ≤ s.length := by
  obtain ⟨_, r, e⟩ := h
  have := congrArg List.length e
  have := A.pos
  simp only [List.length_drop, List.length_append] at *
  omega

theorem At.uniq {s : List Int} {i : Nat} {A B : Wd} (h : At s i A) (h' : At s i B) : A = B := by
  obtain ⟨ha, r, e⟩ := h
  obtain ⟨hb, r', e'⟩ := h'
  rw [e] at e'
  exact (fl_inj A B ha hb _ _ e').1

theorem At.end_ {s : List Int} {i : Nat} {A : Wd} (h : At s i A) : wEnd s i = ((i + A.fl.length : Nat) : Int) := by
  obtain ⟨ha, r, e⟩ := h
  unfold wEnd
  rw [e, we_fl A ha, we_zero]

theorem At.head {s : List Int} {i : Nat} {A : Wd} (h : At s i A) : atI s (i : Int) = some A.hd := by
  have hl := h.lt
  have hp := A.pos
  obtain ⟨_, r, e⟩ := h
  rw [atI_nat]
  have : s[i]? = (s.drop i)[0]? := by rw [List.getElem?_drop]; rfl
  rw [this, e]
  cases A <;> simp [Wd.fl, Wd.hd]

theorem At.left {s : List Int} {i : Nat} {g : Int} {a b : Wd} (h : At s i (.op g a b)) : At s (i + 1) a := by
  obtain ⟨⟨_, ha, _⟩, r, e⟩ := h
  refine ⟨ha, b.fl ++ r, ?_⟩
  rw [← List.drop_drop, e]
  simp [Wd.fl]

theorem At.right {s : List Int} {i : Nat} {g : Int} {a b : Wd} (h : At s i (.op g a b)) : At s (i + 1 + a.fl.length) b := by
  obtain ⟨⟨_, _, hb⟩, r, e⟩ := h
  refine ⟨hb, r, ?_⟩
  rw [← List.drop_drop, ← List.drop_drop, e]
  simp [Wd.fl]

theorem At.zero {A : Wd} (h : A.ok) : At A.fl 0 A := ⟨h, [], by simp⟩

abbrev K2 : Ty := .pair I (.pair I .unit)

def OkM (s t : List Int) (m : List ((Int × (Int × Unit)) × Bool)) : Prop :=
  ∀ (i k : Nat) A B, At s i A → At t k B → ∀ b, mget K2 .bool m ((i : Int), ((k : Int), ())) = some b → b = wle A B

theorem key_eq (x y : Int × (Int × Unit)) : eqD K2 x y = decide (x = y) := by
  obtain ⟨a, b, u⟩ := x
  obtain ⟨c, d, v⟩ := y
  show (decide (a = c) && (decide (b = d) && true)) = decide ((a, b, u) = (c, d, v))
  rw [Bool.eq_iff_iff]
  simp

theorem mget_mput (x y : Int × (Int × Unit)) (b : Bool) : ∀ m : List ((Int × (Int × Unit)) × Bool), mget K2 .bool (mput K2 .bool m x b) y = if y = x then some b else mget K2 .bool m y
  | [] => by
    show cond (eqD K2 y x) (some b) none = _
    rw [key_eq, cd]
    rfl
  | (z, c) :: m => by
    have ih := mget_mput x y b m
    show mget K2 .bool (cond (eqD K2 x z) ((x, b) :: m) ((z, c) :: mput K2 .bool m x b)) y = (if y = x then some b else cond (eqD K2 y z) (some c) (mget K2 .bool m y))
    rw [key_eq, cd, key_eq, cd]
    by_cases hx : x = z
    · rw [if_pos hx, ← hx]
      show cond (eqD K2 y x) (some b) (mget K2 .bool m y) = _
      rw [key_eq, cd]
      by_cases h : y = x <;> simp [h]
    · rw [if_neg hx]
      show cond (eqD K2 y z) (some c) (mget K2 .bool (mput K2 .bool m x b) y) = _
      rw [key_eq, cd, ih]
      by_cases hz : y = z
      · rw [if_pos hz, if_neg (by rintro rfl; exact hx hz), if_pos hz]
      · rw [if_neg hz, if_neg hz]

theorem wrN {n : Nat} (h : n ≤ 1000000000000) : IntKind.i64.wrap ((n : Int) + 1) = ((n + 1 : Nat) : Int) := by rw [wr (by omega) (by omega)]; omega

theorem implEnd_at {s : List Int} {i : Nat} {A : Wd} (hs : s.length ≤ 1000000) (h : At s i A) : impl_wordEnd big s (i : Int) = some (((i + A.fl.length : Nat) : Int), ()) := by
  rw [wordEnd_eq s i (by have := h.lt; omega) (by omega), h.end_]

theorem specEnd_at {s : List Int} {i : Nat} {A : Wd} (hs : s.length ≤ 1000000) (h : At s i A) : spec_l28End big s (i : Int) = some (((i + A.fl.length : Nat) : Int), ()) := by
  rw [l28End_eq s i (by have := h.lt; omega) (by omega), h.end_]

def Res (s t : List Int) (o : Option (Bool × (((List Int) × ((List Int) × ((List ((Int × (Int × Unit)) × Bool)) × Unit))) × Unit))) (b : Bool) : Prop := ∃ m', o = some (b, (s, (t, (m', ()))), ()) ∧ OkM s t m'

def GivesB (s t : List Int) (d : Nat) (A B : Wd) : Prop := ∀ (i k : Nat) m, At s i A → At t k B → OkM s t m → Res s t (R_impl_comparer_below d ((s, (t, (m, ()))), (i : Int), (k : Int), ())) (wle A B)

def GivesD (s t : List Int) (d : Nat) (A B : Wd) : Prop := ∀ (i k : Nat) m, At s i A → At t k B → OkM s t m → Res s t (R_impl_comparer_decide d ((s, (t, (m, ()))), (i : Int), (k : Int), ())) (wle A B)

theorem below_of {s t : List Int} {d : Nat} {A B : Wd} (h : GivesD s t d A B) : GivesB s t (d + 1) A B := by
  intro i k m hA hB hm
  show Res s t (impl_comparer_below (R_impl_comparer_below d) (R_impl_comparer_decide d) (s, (t, (m, ()))) (i : Int) (k : Int)) (wle A B)
  unfold impl_comparer_below impl_comparer_below_s
  simp only
  cases hg : mget K2 .bool m ((i : Int), ((k : Int), ())) with
  | none =>
    obtain ⟨m', h1, h2⟩ := h i k m hA hB hm
    rw [h1]
    refine ⟨_, rfl, fun i' k' A' B' hA' hB' b hb => ?_⟩
    simp only [mget_mput] at hb
    split at hb
    · rename_i e
      simp only [Prod.mk.injEq, and_true] at e
      have e1 : (i' : Int) = (i : Int) := e.1
      have e2 : (k' : Int) = (k : Int) := e.2
      have e1 : i' = i := by omega
      have e2 : k' = k := by omega
      subst e1 e2
      cases hb
      rw [hA'.uniq hA, hB'.uniq hB]
    · exact h2 i' k' A' B' hA' hB' b hb
  | some b =>
    refine ⟨m, ?_, hm⟩
    rw [← hm i k A B hA hB b hg]
    rfl

theorem impl_below {s t : List Int} (hs : s.length ≤ 1000000) (ht : t.length ≤ 1000000) : ∀ (n : Nat) (A B : Wd), A.fl.length + B.fl.length ≤ n → (∀ d, 2 * (A.fl.length + B.fl.length) ≤ d → GivesD s t d A B) := by
  intro n
  induction n with
  | zero => intro A B h; have := A.pos; omega
  | succ n ih =>
    intro A B hn d hd
    have pa := A.pos
    have pb := B.pos
    cases d with
    | zero => omega
    | succ d =>
    have sub : ∀ A' B' : Wd, A'.fl.length + B'.fl.length < A.fl.length + B.fl.length → GivesB s t d A' B' := by
      intro A' B' h
      have := A'.pos
      cases d with
      | zero => omega
      | succ d => exact below_of (ih A' B' (by omega) d (by omega))
    intro i k m hA hB hm
    show Res s t (impl_comparer_decide (R_impl_comparer_below d) (R_impl_comparer_decide d) (s, (t, (m, ()))) (i : Int) (k : Int)) (wle A B)
    unfold impl_comparer_decide impl_comparer_decide_s
    have hAl := hA.lt
    have hBl := hB.lt
    have okA := hA.1
    have okB := hB.1
    obtain ⟨x, hx⟩ : ∃ x, x = A.hd := ⟨_, rfl⟩
    obtain ⟨y, hy⟩ : ∃ y, y = B.hd := ⟨_, rfl⟩
    have hah := hA.head
    have hbh := hB.head
    rw [← hx] at hah
    rw [← hy] at hbh
    simp only [hah, hbh, Option.bind_some]
    rw [wrN (n := i) (by omega), wrN (n := k) (by omega)]
    cases A with
    | v x' =>
      have hx : x = x' := hx
      have hx0 : 0 ≤ x := by rw [hx]; exact okA.1
      cases B with
      | v y' =>
        have hy : y = y' := hy
        have hy0 : 0 ≤ y := by rw [hy]; exact okB.1
        rw [cdf (by omega), cdf (by omega), cdt hx0, cdt hy0]
        exact ⟨m, by simp [wle, hx, hy], hm⟩
      | op g a b =>
        have hy : y = g := hy
        have hgo := okB.1
        obtain ⟨m1, q1, o1⟩ := sub (.v x') a (by simp [Wd.fl]; omega) i (k + 1) m hA hB.left hm
        rw [cdf (by omega)]
        by_cases hg : y = -1
        · rw [cdt hg, q1]
          simp only [Option.bind_some]
          rw [implEnd_at ht hB.left]
          obtain ⟨m2, q2, o2⟩ := sub (.v x') b (by simp [Wd.fl]; omega) i (k + 1 + a.fl.length) m1 hA hB.right o1
          simp only [Option.bind_some, q2]
          rw [wle, if_pos (hy ▸ hg)]
          cases wle (.v x') a
          · exact ⟨m1, by simp, o1⟩
          · exact ⟨m2, by simp, o2⟩
        · rw [cdf hg, cdt hx0, cdf (by omega), cdf (by omega), cdt (by omega), q1]
          simp only [Option.bind_some]
          rw [implEnd_at ht hB.left]
          obtain ⟨m2, q2, o2⟩ := sub (.v x') b (by simp [Wd.fl]; omega) i (k + 1 + a.fl.length) m1 hA hB.right o1
          simp only [Option.bind_some, q2]
          rw [wle, if_neg (by omega)]
          cases wle (.v x') a
          · exact ⟨m2, by simp, o2⟩
          · exact ⟨m1, by simp, o1⟩
    | op g a b =>
      have hx : x = g := hx
      have hgo := okA.1
      by_cases hg : x = -2
      · obtain ⟨m1, q1, o1⟩ := sub a B (by simp [Wd.fl]; omega) (i + 1) k m hA.left hB hm
        obtain ⟨m2, q2, o2⟩ := sub b B (by simp [Wd.fl]; omega) (i + 1 + a.fl.length) k m1 hA.right hB o1
        rw [cdt hg, q1]
        simp only [Option.bind_some]
        rw [implEnd_at hs hA.left]
        simp only [Option.bind_some, q2]
        have e : wle (.op g a b) B = (wle a B && wle b B) := by cases B <;> rw [wle, if_pos (by omega)]
        rw [e]
        cases wle a B
        · exact ⟨m1, by simp, o1⟩
        · exact ⟨m2, by simp, o2⟩
      · cases B with
        | v y' =>
          have hy : y = y' := hy
          have hy0 : 0 ≤ y := by rw [hy]; exact okB.1
          obtain ⟨m1, q1, o1⟩ := sub a (.v y') (by simp [Wd.fl]; omega) (i + 1) k m hA.left hB hm
          obtain ⟨m2, q2, o2⟩ := sub b (.v y') (by simp [Wd.fl]; omega) (i + 1 + a.fl.length) k m1 hA.right hB o1
          rw [cdf hg, cdf (by omega), cdf (by omega), cdt (by omega), q1]
          simp only [Option.bind_some]
          rw [implEnd_at hs hA.left]
          simp only [Option.bind_some, q2]
          rw [cdf (by omega), wle, if_neg (by omega)]
          cases wle a (.v y')
          · cases wle b (.v y')
            · exact ⟨m2, by simp, o2⟩
            · exact ⟨m2, by simp, o2⟩
          · exact ⟨m1, by simp, o1⟩
        | op h c e =>
          have hy : y = h := hy
          have hho := okB.1
          rw [cdf hg]
          by_cases hh : y = -1
          · obtain ⟨m1, q1, o1⟩ := sub (.op g a b) c (by simp [Wd.fl]; omega) i (k + 1) m hA hB.left hm
            obtain ⟨m2, q2, o2⟩ := sub (.op g a b) e (by simp [Wd.fl]; omega) i (k + 1 + c.fl.length) m1 hA hB.right o1
            rw [cdt hh, q1]
            simp only [Option.bind_some]
            rw [implEnd_at ht hB.left]
            simp only [Option.bind_some, q2]
            rw [wle, if_neg (by omega), if_pos (by omega)]
            cases wle (.op g a b) c
            · exact ⟨m1, by simp, o1⟩
            · exact ⟨m2, by simp, o2⟩
          · obtain ⟨m1, q1, o1⟩ := sub a (.op h c e) (by simp [Wd.fl]; omega) (i + 1) k m hA.left hB hm
            obtain ⟨m2, q2, o2⟩ := sub b (.op h c e) (by simp [Wd.fl]; omega) (i + 1 + a.fl.length) k m1 hA.right hB o1
            obtain ⟨m3, q3, o3⟩ := sub (.op g a b) c (by simp [Wd.fl]; omega) i (k + 1) m2 hA hB.left o2
            obtain ⟨m4, q4, o4⟩ := sub (.op g a b) e (by simp [Wd.fl]; omega) i (k + 1 + c.fl.length) m3 hA hB.right o3
            rw [cdf hh, cdf (by omega), cdt (by omega), q1]
            simp only [Option.bind_some]
            rw [implEnd_at hs hA.left]
            simp only [Option.bind_some, q2]
            rw [cdt (show y = -2 by omega), q3]
            simp only [Option.bind_some]
            rw [implEnd_at ht hB.left]
            simp only [Option.bind_some, q4]
            rw [wle, if_neg (by omega), if_neg (by omega)]
            cases wle a (.op h c e)
            · cases wle b (.op h c e)
              · cases wle (.op g a b) c
                · exact ⟨m4, by simp, o4⟩
                · exact ⟨m3, by simp, o3⟩
              · exact ⟨m2, by simp, o2⟩
            · exact ⟨m1, by simp, o1⟩

theorem wordBelow_eq {A B : Wd} (hA : A.ok) (hB : B.ok) (ha : A.fl.length ≤ 40) (hb : B.fl.length ≤ 40) : impl_wordBelow A.fl B.fl = some (wle A B, ()) := by
  have hg := big_ge
  unfold impl_wordBelow impl_wordBelow_s
  obtain ⟨d, hd⟩ : ∃ d, big = d + 1 := ⟨big - 1, by omega⟩
  have h := below_of (impl_below (s := A.fl) (t := B.fl) (by omega) (by omega) _ A B (Nat.le_refl _) d (by omega))
  obtain ⟨m', q, _⟩ := h 0 0 [] (At.zero hA) (At.zero hB) (fun i k A B _ _ b hb => by simp [mget] at hb)
  rw [hd]
  have q : R_impl_comparer_below (d + 1) ((A.fl, (B.fl, ([], ()))), (0 : Int), (0 : Int), ()) = some (wle A B, (A.fl, (B.fl, (m', ()))), ()) := q
  rw [q]
  rfl

def Wd.dp : Wd → Nat
  | .v _ => 0
  | .op _ a b => 1 + max a.dp b.dp

theorem dp_len : ∀ A : Wd, 2 * A.dp + 1 ≤ A.fl.length
  | .v _ => by simp [Wd.dp, Wd.fl]
  | .op _ a b => by
    have h1 := dp_len a
    have h2 := dp_len b
    simp only [Wd.dp, Wd.fl, List.length_cons, List.length_append]
    omega

def rd : Nat → List UInt8 → Option (Wd × List UInt8)
  | 0, _ => none
  | _ + 1, [] => none
  | n + 1, c :: s => if c.toNat = 40 then (match rd n s with
      | none => none
      | some (_, []) => none
      | some (A, x :: r) => if x.toNat = 38 ∨ x.toNat = 124 then (match rd n r with
          | none => none
          | some (_, []) => none
          | some (B, y :: r2) => if y.toNat = 41 then some (.op (if x.toNat = 38 then -1 else -2) A B, r2) else none) else none)
    else if 97 ≤ c.toNat ∧ c.toNat ≤ 101 then some (.v ((c.toNat : Int) - 97), s) else none

theorem rd_spec : ∀ (n : Nat) (s : List UInt8) (A : Wd) (r : List UInt8), rd n s = some (A, r) → A.ok ∧ ∃ k, 1 ≤ k ∧ k ≤ s.length ∧ r = s.drop k ∧ A.fl.length ≤ k
  | 0, _, _, _, h => by simp [rd] at h
  | _ + 1, [], _, _, h => by simp [rd] at h
  | n + 1, c :: s, A, r, h => by
    simp only [rd] at h
    split at h
    · split at h
      · cases h
      · cases h
      · rename_i A1 x r1 h1
        split at h
        case isFalse => cases h
        rename_i hx
        split at h
        · cases h
        · cases h
        · rename_i B1 y r2 h2
          split at h
          case isFalse => cases h
          cases h
          obtain ⟨o1, k1, a1, a2, a3, a4⟩ := rd_spec n s A1 _ h1
          obtain ⟨o2, k2, b1, b2, b3, b4⟩ := rd_spec n r1 B1 _ h2
          have l1 := congrArg List.length a3
          have l2 := congrArg List.length b3
          simp only [List.length_cons, List.length_drop] at l1 l2
          refine ⟨⟨by split <;> simp, o1, o2⟩, 1 + k1 + 1 + k2 + 1, by omega, by simp only [List.length_cons]; omega, ?_, by simp [Wd.fl]; omega⟩
          have e1 : r1 = s.drop (k1 + 1) := by
            rw [← List.drop_drop, ← a3]; rfl
          have e2 : r = r1.drop (k2 + 1) := by
            rw [← List.drop_drop, ← b3]; rfl
          rw [e2, e1, List.drop_drop, show 1 + k1 + 1 + k2 + 1 = (k1 + 1 + (k2 + 1)) + 1 by omega, List.drop_succ_cons]
    · split at h
      case isFalse => cases h
      rename_i hc
      cases h
      exact ⟨by simp only [Wd.ok]; omega, 1, Nat.le_refl _, by simp, rfl, by simp [Wd.fl]⟩

theorem atI_zero {α : Type} (x : α) (xs : List α) : atI (x :: xs) (0 : Int) = some x := rfl

theorem slI_one {α : Type} (x : α) (xs : List α) : slI (x :: xs) (1 : Int) ((x :: xs).length : Int) = some xs := by
  have := slI_nat (x :: xs) 1 (x :: xs).length (by simp) (Nat.le_refl _)
  rw [show ((1 : Nat) : Int) = 1 from rfl] at this
  rw [this]
  simp

theorem sign_eq (x : UInt8) : Option.getD (mget (.int .u8) I (mput (.int .u8) I (mput (.int .u8) I [] (38 : Int) (-1 : Int)) (124 : Int) (-2 : Int)) (x.toNat : Int)) (0 : Int) = if x.toNat = 38 then -1 else if x.toNat = 124 then -2 else 0 := by
  show Option.getD (cond (decide ((x.toNat : Int) = 38)) (some (-1 : Int)) (cond (decide ((x.toNat : Int) = 124)) (some (-2 : Int)) none)) 0 = _
  rw [cd, cd]
  by_cases h : x.toNat = 38
  · rw [if_pos (by omega), if_pos h]; rfl
  · rw [if_neg (by omega), if_neg h]
    by_cases h2 : x.toNat = 124
    · rw [if_pos (by omega), if_pos h2]; rfl
    · rw [if_neg (by omega), if_neg h2]; rfl

def IRd (n : Nat) (s : List UInt8) (deep : Nat) (o : Option (((List Int) × ((List UInt8) × (Bool × Unit))) × Unit)) : Prop :=
  (∀ A r, rd n s = some (A, r) → deep + A.dp ≤ 40 → o = some ((A.fl, r, true, ()), ())) ∧ ((rd n s = none ∨ ∃ A r, rd n s = some (A, r) ∧ 40 < deep + A.dp) → ∃ w r, o = some ((w, r, false, ()), ()))

theorem impl_read : ∀ (n : Nat) (s : List UInt8) (d deep : Nat), s.length < n → n ≤ d → deep ≤ 41 → s.length ≤ 160 → IRd n s deep (R_impl_readWord d (s, (deep : Int), ()))
  | 0, s, d, deep, h, _, _, _ => by omega
  | n + 1, s, 0, deep, _, h, _, _ => by omega
  | n + 1, [], d + 1, deep, h1, h2, h3, h4 => by
    show IRd (n + 1) [] deep (impl_readWord (R_impl_readWord d) [] (deep : Int))
    unfold impl_readWord impl_readWord_s
    rw [cdt rfl]
    exact ⟨fun A r h => by simp [rd] at h, fun _ => ⟨_, _, rfl⟩⟩
  | n + 1, c :: s, d + 1, deep, h1, h2, h3, h4 => by
    show IRd (n + 1) (c :: s) deep (impl_readWord (R_impl_readWord d) (c :: s) (deep : Int))
    unfold impl_readWord impl_readWord_s
    rw [cdf (by simp)]
    by_cases hd : 40 < deep
    · rw [cdt (by omega)]
      exact ⟨fun A r _ h => by omega, fun _ => ⟨_, _, rfl⟩⟩
    rw [cdf (by omega), atI_zero, Option.bind_some]
    simp only [List.length_cons] at h1 h4
    have hcl := c.toNat_lt
    by_cases hc : c.toNat = 40
    · rw [cdf (by omega), slI_one, Option.bind_some, wrN (by omega)]
      have fail : ∀ o, rd (n + 1) (c :: s) = none → o = some (([], [], false, ()), ()) → IRd (n + 1) (c :: s) deep o := by
        intro o hn ho
        refine ⟨fun A r h => (by rw [hn] at h; cases h), fun _ => ⟨_, _, ho⟩⟩
      have fail2 : ∀ o A r, rd (n + 1) (c :: s) = some (A, r) → 40 < deep + A.dp → o = some (([], [], false, ()), ()) → IRd (n + 1) (c :: s) deep o := by
        intro o A r hn hdp ho
        refine ⟨fun A' r' h hl => (by rw [hn] at h; cases h; omega), fun _ => ⟨_, _, ho⟩⟩
      have e0 : rd (n + 1) (c :: s) = (match rd n s with
        | none => none
        | some (_, []) => none
        | some (A, x :: r) => if x.toNat = 38 ∨ x.toNat = 124 then (match rd n r with
            | none => none
            | some (_, []) => none
            | some (B, y :: r2) => if y.toNat = 41 then some (.op (if x.toNat = 38 then -1 else -2) A B, r2) else none) else none) := by
        rw [rd, if_pos hc]
      obtain ⟨i1, i2⟩ := impl_read n s d (deep + 1) (by omega) (by omega) (by omega) (by omega)
      cases hr : rd n s with
      | none =>
        obtain ⟨w, r', q⟩ := i2 (.inl hr)
        rw [q]
        exact fail _ (by rw [e0, hr]) rfl
      | some p =>
        obtain ⟨A, r⟩ := p
        obtain ⟨okA, k, k1, k2, k3, k4⟩ := rd_spec n s A r hr
        have lr := congrArg List.length k3
        simp only [List.length_drop] at lr
        by_cases hdA : deep + 1 + A.dp ≤ 40
        · rw [i1 A r hr hdA]
          simp only [Option.bind_some, Bool.not_true, cond_false]
          cases r with
          | nil =>
            rw [cdt rfl]
            exact fail _ (by rw [e0, hr]) rfl
          | cons x r =>
            rw [cdf (by simp), atI_zero, Option.bind_some, slI_one, Option.bind_some]
            simp only [List.length_cons] at lr
            obtain ⟨j1, j2⟩ := impl_read n r d (deep + 1) (by omega) (by omega) (by omega) (by omega)
            cases hr2 : rd n r with
            | none =>
              obtain ⟨w, r', q⟩ := j2 (.inl hr2)
              rw [q]
              refine fail _ (by rw [e0, hr]; simp only; rw [hr2]; simp) rfl
            | some p =>
              obtain ⟨B, r2⟩ := p
              obtain ⟨okB, m, m1, m2, m3, m4⟩ := rd_spec n r B r2 hr2
              by_cases hdB : deep + 1 + B.dp ≤ 40
              · rw [j1 B r2 hr2 hdB]
                simp only [Option.bind_some, Bool.not_true, cond_false]
                rw [sign_eq]
                by_cases hx : x.toNat = 38 ∨ x.toNat = 124
                · have hsg : ¬ ((if x.toNat = 38 then (-1 : Int) else if x.toNat = 124 then -2 else 0) = 0) := by
                    rcases hx with hx | hx <;> simp [hx]
                  rw [cdf hsg]
                  cases r2 with
                  | nil =>
                    rw [cdt rfl]
                    exact fail _ (by rw [e0, hr]; simp only; rw [if_pos hx, hr2]) rfl
                  | cons y r2 =>
                    rw [cdf (by simp), atI_zero, Option.bind_some]
                    by_cases hy : y.toNat = 41
                    · rw [cdf (by omega), appI_ok (by simp; omega), Option.bind_some, appI_ok (by simp; omega), Option.bind_some, slI_one, Option.bind_some]
                      have e1 : rd (n + 1) (c :: s) = some (.op (if x.toNat = 38 then -1 else -2) A B, r2) := by
                        rw [e0, hr]; simp only; rw [if_pos hx, hr2]; simp only; rw [if_pos hy]
                      refine ⟨fun A' r' h _ => ?_, fun h => ?_⟩
                      · rw [e1] at h
                        cases h
                        have : (if x.toNat = 38 then (-1 : Int) else if x.toNat = 124 then -2 else 0) = if x.toNat = 38 then -1 else -2 := by
                          rcases hx with hx | hx <;> simp [hx]
                        rw [this]
                        simp [Wd.fl]
                      · exfalso
                        rcases h with h | ⟨A', r', h, hl⟩
                        · rw [e1] at h; cases h
                        · rw [e1] at h
                          cases h
                          simp only [Wd.dp] at hl
                          omega
                    · rw [cdt (by omega)]
                      exact fail _ (by rw [e0, hr]; simp only; rw [if_pos hx, hr2]; simp only; rw [if_neg hy]) rfl
                · have hsg : ((if x.toNat = 38 then (-1 : Int) else if x.toNat = 124 then -2 else 0) = 0) := by
                    rw [if_neg (fun h => hx (.inl h)), if_neg (fun h => hx (.inr h))]
                  rw [cdt hsg]
                  exact fail _ (by rw [e0, hr]; simp only; rw [if_neg hx]) rfl
              · obtain ⟨w, r', q⟩ := j2 (.inr ⟨B, r2, hr2, by omega⟩)
                rw [q]
                simp only [Option.bind_some, Bool.not_false, cond_true]
                cases hrr : rd (n + 1) (c :: s) with
                | none => exact fail _ hrr rfl
                | some p =>
                  obtain ⟨A', r'⟩ := p
                  refine fail2 _ A' r' hrr ?_ rfl
                  rw [e0, hr] at hrr
                  simp only at hrr
                  split at hrr
                  case isFalse => cases hrr
                  rw [hr2] at hrr
                  split at hrr
                  · cases hrr
                  · cases hrr
                  · rename_i e
                    cases e
                    split at hrr
                    case isFalse => cases hrr
                    cases hrr
                    simp only [Wd.dp]
                    omega
        · obtain ⟨w, r', q⟩ := i2 (.inr ⟨A, r, hr, by omega⟩)
          rw [q]
          simp only [Option.bind_some, Bool.not_false, cond_true]
          cases hrr : rd (n + 1) (c :: s) with
          | none => exact fail _ hrr rfl
          | some p =>
            obtain ⟨A', r'⟩ := p
            refine fail2 _ A' r' hrr ?_ rfl
            rw [e0, hr] at hrr
            split at hrr
            · cases hrr
            · cases hrr
            · rename_i e
              cases e
              split at hrr
              case isFalse => cases hrr
              split at hrr
              · cases hrr
              · cases hrr
              · split at hrr
                case isFalse => cases hrr
                cases hrr
                simp only [Wd.dp]
                omega
    · rw [cdt (by omega), Option.bind_some, slI_one, Option.bind_some, Option.bind_some, Option.bind_some]
      rw [wr (n := (c.toNat : Int)) (by omega) (by omega), wr (n := (c.toNat : Int) - 97) (by omega) (by omega)]
      have e0 : rd (n + 1) (c :: s) = if 97 ≤ c.toNat ∧ c.toNat ≤ 101 then some (.v ((c.toNat : Int) - 97), s) else none := by rw [rd, if_neg hc]
      by_cases ha : 97 ≤ c.toNat
      · rw [cdt (by omega)]
        by_cases hb : c.toNat ≤ 101
        · rw [if_pos ⟨ha, hb⟩] at e0
          refine ⟨fun A r h _ => ?_, fun h => ?_⟩
          · rw [e0] at h; cases h
            rw [decide_eq_true (by omega)]
            rfl
          · exfalso
            rcases h with h | ⟨A, r, h, hl⟩
            · rw [e0] at h; cases h
            · rw [e0] at h; cases h; simp only [Wd.dp] at hl; omega
        · rw [if_neg (by omega)] at e0
          exact ⟨fun A r h => (by rw [e0] at h; cases h), fun _ => ⟨_, _, by rw [decide_eq_false (by omega)]⟩⟩
      · rw [cdf (by omega)]
        rw [if_neg (by omega)] at e0
        exact ⟨fun A r h => (by rw [e0] at h; cases h), fun _ => ⟨_, _, rfl⟩⟩

def SRd (s : List UInt8) (a n : Nat) (o : Option (((List Int) × (Int × Unit)) × Unit)) : Prop :=
  (∀ A r, rd n (s.drop a) = some (A, r) → o = some ((A.fl, ((s.length - r.length : Nat) : Int), ()), ())) ∧ (rd n (s.drop a) = none → o = some (([], (-1 : Int), ()), ()))

theorem spec_read (s : List UInt8) (hs : s.length ≤ 160) : ∀ (n a d : Nat), (s.drop a).length < n → n ≤ d → a ≤ s.length → SRd s a n (R_spec_l28Read d (s, (a : Int), ()))
  | 0, a, d, h, _, _ => by omega
  | n + 1, a, 0, _, h, _ => by omega
  | n + 1, a, d + 1, h1, h2, h3 => by
    show SRd s a (n + 1) (spec_l28Read (R_spec_l28Read d) s (a : Int))
    unfold spec_l28Read spec_l28Read_s
    by_cases ha : a < s.length
    case neg =>
      rw [cdt (by omega)]
      have e : s.drop a = [] := List.drop_eq_nil_of_le (by omega)
      refine ⟨fun A r h => ?_, fun _ => rfl⟩
      rw [e] at h
      simp [rd] at h
    rw [cdf (by omega), atI_lt s a ha, Option.bind_some, Option.bind_some, Option.bind_some]
    have hdrop : s.drop a = s[a] :: s.drop (a + 1) := List.drop_eq_getElem_cons ha
    generalize hcc : s[a] = c at *
    have hcl := c.toNat_lt
    rw [wr (n := (c.toNat : Int)) (by omega) (by omega), l1In_eq, Option.bind_some]
    simp only [List.length_drop] at h1
    by_cases hc : c.toNat = 40
    · rw [decide_eq_false (by omega), cond_false, cdf (by omega), wrN (by omega)]
      have e0 : rd (n + 1) (s.drop a) = (match rd n (s.drop (a + 1)) with
        | none => none
        | some (_, []) => none
        | some (A, x :: r) => if x.toNat = 38 ∨ x.toNat = 124 then (match rd n r with
            | none => none
            | some (_, []) => none
            | some (B, y :: r2) => if y.toNat = 41 then some (.op (if x.toNat = 38 then -1 else -2) A B, r2) else none) else none) := by
        rw [hdrop, rd, if_pos hc]
      have fail : ∀ o, rd (n + 1) (s.drop a) = none → o = some (([], (-1 : Int), ()), ()) → SRd s a (n + 1) o := by
        intro o hn ho
        exact ⟨fun A r h => (by rw [hn] at h; cases h), fun _ => ho⟩
      obtain ⟨i1, i2⟩ := spec_read s hs n (a + 1) d (by simp; omega) (by omega) (by omega)
      cases hr : rd n (s.drop (a + 1)) with
      | none =>
        rw [i2 hr]
        simp only [Option.bind_some]
        rw [cdt (by omega)]
        exact fail _ (by rw [e0, hr]) rfl
      | some p =>
        obtain ⟨A, r⟩ := p
        obtain ⟨okA, k, k1, k2, k3, k4⟩ := rd_spec n _ A r hr
        rw [List.drop_drop] at k3
        have lr := congrArg List.length k3
        simp only [List.length_drop] at lr k2
        rw [i1 A r hr]
        simp only [Option.bind_some]
        rw [cdf (by omega)]
        have hpos : s.length - r.length = a + 1 + k := by omega
        rw [hpos]
        cases r with
        | nil =>
          simp only [List.length_nil] at lr hpos
          rw [cdt (by omega)]
          exact fail _ (by rw [e0, hr]) rfl
        | cons x r =>
          simp only [List.length_cons] at lr hpos
          have hlt : a + 1 + k < s.length := by omega
          have hxx : s[a + 1 + k] = x := by
            have := List.drop_eq_getElem_cons hlt
            rw [← k3] at this
            exact (List.cons.inj this).1.symm
          have hrr : r = s.drop (a + 1 + k + 1) := by
            have := List.drop_eq_getElem_cons hlt
            rw [← k3] at this
            exact (List.cons.inj this).2
          rw [cdf (by omega), atI_lt s _ hlt, hxx]
          repeat rw [Option.bind_some]
          rw [wrN (by omega)]
          obtain ⟨j1, j2⟩ := spec_read s hs n (a + 1 + k + 1) d (by simp; omega) (by omega) (by omega)
          rw [← hrr] at j1 j2
          have tail : ∀ (g : Int) (hg : g = if x.toNat = 38 then -1 else -2) (hx : x.toNat = 38 ∨ x.toNat = 124), SRd s a (n + 1) ((R_spec_l28Read d (s, ((a + 1 + k + 1 : Nat) : Int), ())).bind fun rq9 =>
              cond (decide (((((), rq9.1.2).2).1) < (0 : Int))) (some (([], (-1 : Int), ()), (())))
              (cond (decide ((s.length : Int) ≤ ((((), rq9.1.2).2).1))) (some (([], (-1 : Int), ()), (())))
              ((atI s ((((), rq9.1.2).2).1)).bind fun xq10 => cond (decide ((xq10.toNat : Int) ≠ (41 : Int))) (some (([], (-1 : Int), ()), (())))
              ((appI [g] A.fl).bind fun xq11 => (appI xq11 rq9.1.1).bind fun xq12 => some ((xq12, IntKind.i64.wrap (((((), rq9.1.2).2).1) + (1 : Int)), ()), (())))))) := by
            intro g hg hx
            cases hr2 : rd n r with
            | none =>
              rw [j2 hr2]
              simp only [Option.bind_some]
              rw [cdt (by omega)]
              exact fail _ (by rw [e0, hr]; simp only; rw [if_pos hx, hr2]) rfl
            | some p =>
              obtain ⟨B, r2⟩ := p
              obtain ⟨okB, m, m1, m2, m3, m4⟩ := rd_spec n _ B r2 hr2
              rw [hrr, List.drop_drop] at m3
              have lr2 := congrArg List.length m3
              simp only [List.length_drop] at lr2
              rw [j1 B r2 hr2]
              simp only [Option.bind_some]
              rw [cdf (by omega)]
              have hpos2 : s.length - r2.length = a + 1 + k + 1 + m := by omega
              rw [hpos2]
              cases r2 with
              | nil =>
                simp only [List.length_nil] at lr2 hpos2
                rw [cdt (by omega)]
                exact fail _ (by rw [e0, hr]; simp only; rw [if_pos hx, hr2]) rfl
              | cons y r2 =>
                simp only [List.length_cons] at lr2 hpos2
                have hlt2 : a + 1 + k + 1 + m < s.length := by omega
                have hyy : s[a + 1 + k + 1 + m] = y := by
                  have := List.drop_eq_getElem_cons hlt2
                  rw [← m3] at this
                  exact (List.cons.inj this).1.symm
                rw [cdf (by omega), atI_lt s _ hlt2, hyy, Option.bind_some]
                by_cases hy : y.toNat = 41
                · rw [cdf (by omega), appI_ok (by simp; omega), Option.bind_some, appI_ok (by simp; omega), Option.bind_some, wrN (by omega)]
                  have e1 : rd (n + 1) (s.drop a) = some (.op (if x.toNat = 38 then -1 else -2) A B, r2) := by
                    rw [e0, hr]; simp only; rw [if_pos hx, hr2]; simp only; rw [if_pos hy]
                  refine ⟨fun A' r' h => ?_, fun h => by rw [e1] at h; cases h⟩
                  rw [e1] at h
                  cases h
                  rw [hg, show s.length - r2.length = a + 1 + k + 1 + m + 1 by omega]
                  simp [Wd.fl]
                · rw [cdt (by omega)]
                  exact fail _ (by rw [e0, hr]; simp only; rw [if_pos hx, hr2]; simp only; rw [if_neg hy]) rfl
          by_cases hx1 : x.toNat = 38
          · rw [cdf (by omega), cdf (by omega)]
            exact tail (-1) (by rw [if_pos hx1]) (.inl hx1)
          · rw [cdt (by omega)]
            by_cases hx2 : x.toNat = 124
            · rw [cdf (by omega), cdt (by omega)]
              exact tail (-2) (by rw [if_neg hx1]) (.inr hx2)
            · rw [cdt (by omega)]
              exact fail _ (by rw [e0, hr]; simp only; rw [if_neg (by omega)]) rfl
    · have e0 : rd (n + 1) (s.drop a) = if 97 ≤ c.toNat ∧ c.toNat ≤ 101 then some (.v ((c.toNat : Int) - 97), s.drop (a + 1)) else none := by rw [hdrop, rd, if_neg hc]
      by_cases hab : 97 ≤ c.toNat ∧ c.toNat ≤ 101
      · rw [decide_eq_true (by omega), cond_true, wrN (by omega)]
        rw [if_pos hab] at e0
        refine ⟨fun A r h => ?_, fun h => by rw [e0] at h; cases h⟩
        rw [e0] at h
        cases h
        have e1 : IntKind.u8.wrap ((c.toNat : Int) - 97) = (c.toNat : Int) - 97 := IntWalk.u8_in _ ⟨by omega, by omega⟩
        rw [e1, wr (by omega) (by omega)]
        simp only [List.length_drop]
        rw [show s.length - (s.length - (a + 1)) = a + 1 by omega]
        rfl
      · rw [decide_eq_false (by omega), cond_false, cdt (by omega)]
        rw [if_neg hab] at e0
        exact ⟨fun A r h => (by rw [e0] at h; cases h), fun _ => rfl⟩

theorem isWord_fl {A : Wd} (h : A.ok) : isWord A.fl = decide (A.fl.length ≤ 40) := by
  have e : we A.fl 1 0 = some A.fl.length := by
    have := we_fl A h [] 0 0
    rw [List.append_nil, we_zero] at this
    rw [this]; simp
  rw [Bool.eq_iff_iff, isWord_iff, decide_eq_true_eq]
  exact ⟨fun h => h.1, fun h => ⟨h, e⟩⟩

def parseV (s : List UInt8) : List Int × Bool × Unit := if s.length ≤ 160 then (match rd (s.length + 1) s with
  | some (A, []) => if A.fl.length ≤ 40 then (A.fl, true, ()) else ([], false, ())
  | _ => ([], false, ())) else ([], false, ())

theorem implParse_eq (s : List UInt8) : impl_ParseWord s = some (parseV s, ()) := by
  have hg := big_ge
  unfold impl_ParseWord impl_ParseWord_s parseV
  by_cases hl : s.length ≤ 160
  case neg => rw [cdt (by omega), if_neg hl]
  rw [cdf (by omega), if_pos hl]
  obtain ⟨h1, h2⟩ := impl_read (s.length + 1) s big 0 (by omega) (by omega) (by omega) hl
  have h1 : ∀ A r, rd (s.length + 1) s = some (A, r) → A.dp ≤ 40 → R_impl_readWord big (s, (0 : Int), ()) = some ((A.fl, r, true, ()), ()) := fun A r h hd => h1 A r h (by omega)
  have h2 : (rd (s.length + 1) s = none ∨ ∃ A r, rd (s.length + 1) s = some (A, r) ∧ 40 < 0 + A.dp) → ∃ w r, R_impl_readWord big (s, (0 : Int), ()) = some ((w, r, false, ()), ()) := h2
  cases hr : rd (s.length + 1) s with
  | none =>
    obtain ⟨w, r, q⟩ := h2 (.inl hr)
    rw [q]
    rfl
  | some p =>
    obtain ⟨A, r⟩ := p
    obtain ⟨okA, _⟩ := rd_spec _ _ _ _ hr
    have hdl := dp_len A
    by_cases hd : A.dp ≤ 40
    · rw [h1 A r hr hd]
      simp only [Option.bind_some, Bool.not_true, cond_false]
      cases r with
      | nil =>
        rw [cdf (by simp), implIsWord_eq, Option.bind_some, isWord_fl okA]
        by_cases h40 : A.fl.length ≤ 40
        · simp [h40]
        · simp [h40]
      | cons x r => rw [cdt (by simp)]
    · obtain ⟨w, r', q⟩ := h2 (.inr ⟨A, r, hr, by omega⟩)
      rw [q]
      cases r with
      | nil => simp only; rw [if_neg (by omega)]; rfl
      | cons x r => rfl

theorem specParse_eq (s : List UInt8) : spec_ParseWord s = some (parseV s, ()) := by
  have hg := big_ge
  unfold spec_ParseWord spec_ParseWord_s parseV
  by_cases hl : s.length ≤ 160
  case neg => rw [cdt (by omega), if_neg hl]
  rw [cdf (by omega), if_pos hl]
  obtain ⟨h1, h2⟩ := spec_read s hl (s.length + 1) 0 big (by simp) (by omega) (by omega)
  rw [List.drop_zero] at h1 h2
  have h1 : ∀ A r, rd (s.length + 1) s = some (A, r) → R_spec_l28Read big (s, (0 : Int), ()) = some ((A.fl, ((s.length - r.length : Nat) : Int), ()), ()) := h1
  have h2 : rd (s.length + 1) s = none → R_spec_l28Read big (s, (0 : Int), ()) = some (([], (-1 : Int), ()), ()) := h2
  cases hr : rd (s.length + 1) s with
  | none =>
    rw [h2 hr]
    simp only [Option.bind_some]
    rw [cdt (by omega)]
  | some p =>
    obtain ⟨A, r⟩ := p
    obtain ⟨okA, k, k1, k2, k3, _⟩ := rd_spec _ _ _ _ hr
    have lr := congrArg List.length k3
    simp only [List.length_drop] at lr
    rw [h1 A r hr]
    simp only [Option.bind_some]
    cases r with
    | nil =>
      rw [cdf (by simp), l28Good_eq, Option.bind_some, isWord_fl okA]
      by_cases h40 : A.fl.length ≤ 40
      · simp [h40]
      · simp [h40]
    | cons x r =>
      simp only [List.length_cons] at lr ⊢
      rw [cdt (by omega)]

theorem parseV_len (s : List UInt8) : (parseV s).1.length ≤ 40 := by
  unfold parseV
  split
  · split
    · split
      · assumption
      · simp
    · simp
  · simp

def ea (E : List P2) (i : Nat) : Nat := (E.getD i (0, 0, ())).1.toNat

def sAg (n m : Nat) (lp lq : Nat → Nat → Bool) (S : List Nat) (y z : Nat) : Prop :=
  (mt m lq y z < S.length → mt n lp (S.getD y 0) (S.getD z 0) = S.getD (mt m lq y z) 0) ∧ (mt m (du lq) y z < S.length → mt n (du lp) (S.getD y 0) (S.getD z 0) = S.getD (mt m (du lq) y z) 0)

def sAgr (n m : Nat) (lp lq : Nat → Nat → Bool) (S : List Nat) : Prop := ∀ y z, y < S.length → z < S.length → sAg n m lp lq S y z

noncomputable def sub (n m : Nat) (lp lq : Nat → Nat → Bool) : Nat → List Nat → Option (List Nat)
  | 0, S => some S
  | k + 1, S => (List.range n).findSome? fun x => if x ∈ S then none else bif tv (sAgr n m lp lq (S ++ [x])) then sub n m lp lq k (S ++ [x]) else none

theorem tx_len : ∀ A : Wd, A.tx.length ≤ 4 * A.fl.length
  | .v n => by simp [Wd.tx, Wd.fl]
  | .op g a b => by
    have h1 := tx_len a
    have h2 := tx_len b
    simp only [Wd.tx, Wd.fl, List.length_cons, List.length_append, List.length_nil]
    omega

theorem parts_fl {g : Int} {a b : Wd} (h : (Wd.op g a b).ok) (hl : (Wd.op g a b).fl.length ≤ 1000000) : spec_l28Parts (Wd.op g a b).fl = some ((a.fl, b.fl, ()), ()) := by
  have hat : At (Wd.op g a b).fl 1 a := ⟨h.2.1, b.fl, by simp [Wd.fl]⟩
  have e := specEnd_at hl hat
  simp only [Wd.fl, List.length_cons, List.length_append] at hl
  unfold spec_l28Parts spec_l28Parts_s
  rw [show (1 : Int) = ((1 : Nat) : Int) from rfl, e, Option.bind_some, slI_nat _ 1 _ (by omega) (by simp [Wd.fl]; omega), Option.bind_some, slI_nat _ _ _ (by simp [Wd.fl]; omega) (Nat.le_refl _), Option.bind_some]
  have e1 : ((Wd.op g a b).fl.drop 1).take (1 + a.fl.length - 1) = a.fl := by
    rw [show 1 + a.fl.length - 1 = a.fl.length by omega]
    simp [Wd.fl]
  have e2 : ((Wd.op g a b).fl.drop (1 + a.fl.length)).take ((Wd.op g a b).fl.length - (1 + a.fl.length)) = b.fl := by
    rw [show 1 + a.fl.length = a.fl.length + 1 by omega]
    simp [Wd.fl]
  rw [e1, e2]

theorem letter_text {n : Int} (h0 : 0 ≤ n) (h5 : n < 5) : slI ([97, 98, 99, 100, 101] : List UInt8) n (IntKind.i64.wrap (n + 1)) = some [UInt8.ofNat (97 + n.toNat)] := by
  have : n = 0 ∨ n = 1 ∨ n = 2 ∨ n = 3 ∨ n = 4 := by omega
  rcases this with rfl | rfl | rfl | rfl | rfl <;> rfl

theorem specText_eq : ∀ (A : Wd), A.ok → A.fl.length ≤ 1000000 → ∀ d, A.fl.length < d → R_spec_l28Text d (A.fl, ()) = some (A.tx, ())
  | A, h, hl, 0, hd => by omega
  | .v n, h, hl, d + 1, hd => by
    obtain ⟨h0, h5⟩ := h
    show spec_l28Text _ [n] = _
    unfold spec_l28Text spec_l28Text_s
    have a0 : atI [n] (0 : Int) = some n := rfl
    rw [a0, Option.bind_some, cdt h0, Option.bind_some, Option.bind_some, letter_text h0 h5]
    rfl
  | .op g a b, h, hl, d + 1, hd => by
    have hp := parts_fl h hl
    have hg := h.1
    have la := tx_len a
    have lb := tx_len b
    simp only [Wd.fl, List.length_cons, List.length_append] at hl hd
    have ia := specText_eq a h.2.1 (by omega) d (by omega)
    have ib := specText_eq b h.2.2 (by omega) d (by omega)
    show spec_l28Text _ (Wd.op g a b).fl = _
    have a0 : atI (Wd.op g a b).fl (0 : Int) = some g := rfl
    unfold spec_l28Text spec_l28Text_s
    rw [a0, Option.bind_some, cdf (by omega), hp, Option.bind_some, Option.bind_some]
    simp only [Wd.tx]
    by_cases h2 : g = -2
    · rw [cdt h2, ia, Option.bind_some, appI_ok (by simp; omega), Option.bind_some, appI_ok (by simp; omega), Option.bind_some, ib, Option.bind_some, appI_ok (by simp; omega), Option.bind_some, appI_ok (by simp; omega), Option.bind_some, if_pos h2]
      simp
    · rw [cdf h2, ia, Option.bind_some, appI_ok (by simp; omega), Option.bind_some, appI_ok (by simp; omega), Option.bind_some, ib, Option.bind_some, appI_ok (by simp; omega), Option.bind_some, appI_ok (by simp; omega), Option.bind_some, if_neg h2]
      simp

theorem endPure : EndPure := by
  intro g a b h hl
  have hat : At (Wd.op g a b).fl 1 a := ⟨h.2.1, b.fl, by simp [Wd.fl]⟩
  exact implEnd_at hl hat

theorem implText_eq {A : Wd} (h : A.ok) (hl : A.fl.length ≤ 40) : impl_wordText A.fl = some (A.tx, ()) := by
  have hx : (∃ B : Wd, B.ok ∧ B.fl.length ≤ 40 ∧ B.fl = A.fl) ∧ EndPure := ⟨⟨A, h, hl, rfl⟩, endPure⟩
  unfold impl_wordText
  rw [dif_pos hx]
  have hc := Classical.choose_spec hx.1
  have := (fl_inj _ _ hc.1 h [] [] (by rw [hc.2.2])).1
  rw [this]

theorem wordText_eq (w : List Int) : ∃ v : List UInt8 × Bool × Unit, spec_WordText w = some (v, ()) ∧ impl_WordText w = some (v, ()) := by
  unfold spec_WordText spec_WordText_s impl_WordText impl_WordText_s
  rw [l28Good_eq, implIsWord_eq, Option.bind_some, Option.bind_some]
  cases h : isWord w with
  | false => exact ⟨_, rfl, rfl⟩
  | true =>
    obtain ⟨A, hA, rfl⟩ := word_tree h
    have hl := ((isWord_iff _).1 h).1
    have hb := big_ge
    rw [Bool.not_true, cond_false, cond_false, specText_eq A hA (by omega) big (by omega), implText_eq hA hl, Option.bind_some]
    exact ⟨_, rfl, rfl⟩

theorem wle_joinL (a b C : Wd) : wle (.op (-2) a b) C = (wle a C && wle b C) := by
  cases C with
  | v m => rw [wle]; simp
  | op h c d => rw [wle]; simp

theorem wle_meetR {A : Wd} (hA : A.ok) (C D : Wd) : wle A (.op (-1) C D) = (wle A C && wle A D) := by
  induction A with
  | v n => rw [wle]; simp
  | op g a b iha ihb =>
    obtain ⟨hg, ha, hb⟩ := hA
    rcases hg with rfl | rfl
    · rw [wle]; simp
    · rw [wle_joinL, iha ha, ihb hb, wle_joinL, wle_joinL]
      cases wle a C <;> cases wle a D <;> cases wle b C <;> cases wle b D <;> rfl

theorem wle_joinR1 {A C : Wd} (hA : A.ok) (D : Wd) (h : wle A C = true) : wle A (.op (-2) C D) = true := by
  induction A with
  | v n => rw [wle]; simp [h]
  | op g a b iha ihb =>
    obtain ⟨hg, ha, hb⟩ := hA
    rcases hg with rfl | rfl
    · rw [wle]; simp [h]
    · rw [wle_joinL] at h ⊢
      rw [Bool.and_eq_true] at h
      rw [iha ha h.1, ihb hb h.2]; rfl

theorem wle_joinR2 {A D : Wd} (hA : A.ok) (C : Wd) (h : wle A D = true) : wle A (.op (-2) C D) = true := by
  induction A with
  | v n => rw [wle]; simp [h]
  | op g a b iha ihb =>
    obtain ⟨hg, ha, hb⟩ := hA
    rcases hg with rfl | rfl
    · rw [wle]; simp [h]
    · rw [wle_joinL] at h ⊢
      rw [Bool.and_eq_true] at h
      rw [iha ha h.1, ihb hb h.2]; rfl

theorem wle_meetL1 {A B C : Wd} (hA : A.ok) (hB : B.ok) (hC : C.ok) (h : wle A C = true) : wle (.op (-1) A B) C = true := by
  induction C with
  | v n => rw [wle]; simp [h]
  | op g c d ihc ihd =>
    obtain ⟨hg, hc, hd⟩ := hC
    rcases hg with rfl | rfl
    · rw [wle_meetR hA] at h
      rw [Bool.and_eq_true] at h
      rw [wle_meetR (show (Wd.op (-1) A B).ok from ⟨.inl rfl, hA, hB⟩), ihc hc h.1, ihd hd h.2]; rfl
    · rw [wle]; simp [h]

theorem wle_meetL2 {A B C : Wd} (hA : A.ok) (hB : B.ok) (hC : C.ok) (h : wle B C = true) : wle (.op (-1) A B) C = true := by
  induction C with
  | v n => rw [wle]; simp [h]
  | op g c d ihc ihd =>
    obtain ⟨hg, hc, hd⟩ := hC
    rcases hg with rfl | rfl
    · rw [wle_meetR hB] at h
      rw [Bool.and_eq_true] at h
      rw [wle_meetR (show (Wd.op (-1) A B).ok from ⟨.inl rfl, hA, hB⟩), ihc hc h.1, ihd hd h.2]; rfl
    · rw [wle]; simp [h]

theorem wle_refl {A : Wd} (h : A.ok) : wle A A = true := by
  induction A with
  | v n => rw [wle]; simp
  | op g a b iha ihb =>
    obtain ⟨hg, ha, hb⟩ := h
    rcases hg with rfl | rfl
    · rw [wle_meetR (show (Wd.op (-1) a b).ok from ⟨.inl rfl, ha, hb⟩), wle_meetL1 ha hb ha (iha ha), wle_meetL2 ha hb hb (ihb hb)]; rfl
    · rw [wle_joinL, wle_joinR1 ha b (iha ha), wle_joinR2 hb a (ihb hb)]; rfl

def Wd.sb (s : Int → Wd) : Wd → Wd
  | .v n => s n
  | .op g a b => .op g (a.sb s) (b.sb s)

theorem sb_ok {s : Int → Wd} (hs : ∀ n, (s n).ok) : ∀ {A : Wd}, A.ok → (A.sb s).ok
  | .v n, _ => hs n
  | .op g a b, h => ⟨h.1, sb_ok hs h.2.1, sb_ok hs h.2.2⟩

theorem wle_sb {s : Int → Wd} (hs : ∀ n, (s n).ok) : ∀ (k : Nat) (A B : Wd), A.fl.length + B.fl.length ≤ k → A.ok → B.ok → wle A B = true → wle (A.sb s) (B.sb s) = true := by
  intro k
  induction k with
  | zero => intro A B hk; have := A.pos; omega
  | succ k ih =>
    intro A B hk hA hB h
    cases A with
    | v n =>
      cases B with
      | v m =>
        rw [wle] at h
        have e : n = m := of_decide_eq_true h
        subst e
        exact wle_refl (hs n)
      | op g c d =>
        obtain ⟨hg, hc, hd⟩ := hB
        simp only [Wd.fl, List.length_cons, List.length_append] at hk
        have e1 := ih (.v n) c (by simp only [Wd.fl, List.length_cons]; omega) hA hc
        have e2 := ih (.v n) d (by simp only [Wd.fl, List.length_cons]; omega) hA hd
        rcases hg with rfl | rfl
        · rw [wle_meetR hA, Bool.and_eq_true] at h
          show wle (s n) (.op (-1) (c.sb s) (d.sb s)) = true
          rw [wle_meetR (hs n), Bool.and_eq_true]
          exact ⟨e1 h.1, e2 h.2⟩
        · rw [wle] at h
          rw [if_neg (by omega), Bool.or_eq_true] at h
          show wle (s n) (.op (-2) (c.sb s) (d.sb s)) = true
          rcases h with h | h
          · exact wle_joinR1 (hs n) _ (e1 h)
          · exact wle_joinR2 (hs n) _ (e2 h)
    | op g a b =>
      obtain ⟨hg, ha, hb⟩ := hA
      simp only [Wd.fl, List.length_cons, List.length_append] at hk
      have pa := a.pos
      have pb := b.pos
      have e1 := ih a B (by omega) ha hB
      have e2 := ih b B (by omega) hb hB
      rcases hg with rfl | rfl
      · show wle (.op (-1) (a.sb s) (b.sb s)) _ = true
        have oa := sb_ok hs ha
        have ob := sb_ok hs hb
        have oB := sb_ok hs hB
        cases B with
        | v m =>
          rw [wle] at h
          rw [if_neg (by omega), Bool.or_eq_true] at h
          rcases h with h | h
          · exact wle_meetL1 oa ob oB (e1 h)
          · exact wle_meetL2 oa ob oB (e2 h)
        | op h' c d =>
          obtain ⟨hh, hc, hd⟩ := hB
          simp only [Wd.fl, List.length_cons, List.length_append] at hk
          have oA : (Wd.op (-1) a b).ok := ⟨.inl rfl, ha, hb⟩
          have oA' : (Wd.op (-1) (a.sb s) (b.sb s)).ok := ⟨.inl rfl, oa, ob⟩
          have e3 := ih (.op (-1) a b) c (by simp only [Wd.fl, List.length_cons, List.length_append]; omega) oA hc
          have e4 := ih (.op (-1) a b) d (by simp only [Wd.fl, List.length_cons, List.length_append]; omega) oA hd
          rcases hh with rfl | rfl
          · rw [wle_meetR oA, Bool.and_eq_true] at h
            show wle _ (.op (-1) (c.sb s) (d.sb s)) = true
            rw [wle_meetR oA', Bool.and_eq_true]
            exact ⟨e3 h.1, e4 h.2⟩
          · rw [wle] at h
            rw [if_neg (by omega), if_neg (by omega), Bool.or_eq_true, Bool.or_eq_true, Bool.or_eq_true] at h
            rcases h with (h | h) | (h | h)
            · exact wle_meetL1 oa ob oB (e1 h)
            · exact wle_meetL2 oa ob oB (e2 h)
            · exact wle_joinR1 oA' _ (e3 h)
            · exact wle_joinR2 oA' _ (e4 h)
      · rw [wle_joinL, Bool.and_eq_true] at h
        show wle (.op (-2) (a.sb s) (b.sb s)) _ = true
        rw [wle_joinL, Bool.and_eq_true]
        exact ⟨e1 h.1, e2 h.2⟩

theorem letter_nat {x : Int} (h0 : 0 ≤ x) (h5 : x < 5) : (UInt8.ofNat (97 + x.toNat)).toNat = 97 + x.toNat := by
  have : x = 0 ∨ x = 1 ∨ x = 2 ∨ x = 3 ∨ x = 4 := by omega
  rcases this with rfl | rfl | rfl | rfl | rfl <;> rfl

theorem rd_tx : ∀ (A : Wd), A.ok → ∀ (n : Nat) (r : List UInt8), A.fl.length ≤ n → rd n (A.tx ++ r) = some (A, r)
  | .v x, h, n, r, hn => by
    obtain ⟨m, rfl⟩ : ∃ m, n = m + 1 := ⟨n - 1, by simp [Wd.fl] at hn; omega⟩
    have hc := letter_nat h.1 h.2
    have h5 := h.2
    have h0 := h.1
    show rd (m + 1) (UInt8.ofNat (97 + x.toNat) :: r) = _
    rw [rd, if_neg (by omega), if_pos (by omega), hc]
    rw [show (((97 + x.toNat : Nat) : Int) - 97) = x by omega]
  | .op g a b, h, n, r, hn => by
    simp only [Wd.fl, List.length_cons, List.length_append] at hn
    obtain ⟨m, rfl⟩ : ∃ m, n = m + 1 := ⟨n - 1, by omega⟩
    have ia := rd_tx a h.2.1 m ((if g = -2 then 124 else 38) :: (b.tx ++ 41 :: r)) (by omega)
    have ib := rd_tx b h.2.2 m (41 :: r) (by omega)
    have e : (Wd.op g a b).tx ++ r = 40 :: (a.tx ++ (if g = -2 then 124 else 38) :: (b.tx ++ 41 :: r)) := by simp [Wd.tx]
    rw [e, rd, if_pos (show (40 : UInt8).toNat = 40 from rfl), ia]
    rcases h.1 with rfl | rfl
    · simp only [if_neg (show ¬ ((-1 : Int) = -2) by omega)]
      rw [if_pos (.inl rfl), ib]
      rfl
    · simp only [if_true]
      rw [if_pos (.inr rfl), ib]
      rfl

theorem fl_tx : ∀ A : Wd, A.fl.length ≤ A.tx.length
  | .v n => by simp [Wd.tx, Wd.fl]
  | .op g a b => by
    have h1 := fl_tx a
    have h2 := fl_tx b
    simp only [Wd.tx, Wd.fl, List.length_cons, List.length_append, List.length_nil]
    omega

theorem parseV_tx {A : Wd} (h : A.ok) (hl : A.fl.length ≤ 40) : parseV A.tx = (A.fl, true, ()) := by
  have h1 := tx_len A
  have h2 := fl_tx A
  have h3 := rd_tx A h (A.tx.length + 1) [] (by omega)
  rw [List.append_nil] at h3
  unfold parseV
  rw [if_pos (by omega), h3]
  simp only
  rw [if_pos hl]

abbrev Cu := List Int × Int × Int × Unit

def COk (k : Nat) (c : Cu) : Prop := 0 ≤ c.2.1 ∧ c.2.1 + k ≤ 4611686018427387904 ∧ c.1.length ≤ 65536 ∧ ∀ x ∈ c.1, 0 ≤ x ∧ x ≤ 255

theorem and255 (x : Int) : ∃ n : Nat, n ≤ 255 ∧ bitI .and .u64 x 255 = (n : Int) := by
  refine ⟨(BitVec.ofInt IntKind.u64.bits x &&& BitVec.ofInt IntKind.u64.bits 255).toNat, ?_, ?_⟩
  · rw [BitVec.toNat_and]
    exact Nat.le_trans Nat.and_le_right (by decide)
  · have h : (BitVec.ofInt IntKind.u64.bits x &&& BitVec.ofInt IntKind.u64.bits 255).toNat ≤ 255 := by
      rw [BitVec.toNat_and]
      exact Nat.le_trans Nat.and_le_right (by decide)
    unfold bitI
    exact IntWalk.u64_in _ (by omega)

theorem cur_next {k : Nat} {c : Cu} (h : COk (k + 1) c) : ∃ v c', spec_l1Cur_next c = some (v, (c', ())) ∧ 0 ≤ v ∧ v ≤ 255 ∧ COk k c' := by
  obtain ⟨h0, h1, h2, h3⟩ := h
  obtain ⟨l, a, s, u⟩ := c
  simp only at h0 h1 h2 h3
  have hw : IntKind.i64.wrap (a + 1) = a + 1 := wr (by omega) (by omega)
  have key : ∀ s' : Int, COk k (l, a + 1, s', u) := fun s' => ⟨by show 0 ≤ a + 1; omega, by show a + 1 + k ≤ _; omega, h2, h3⟩
  have tail : ∀ s' : Int, ∃ v c', ((shrI IntKind.u64 s' (40 : Int)).bind fun xq => some (IntKind.i64.wrap (bitI .and IntKind.u64 xq (255 : Int)), ((l, a + 1, s', u), ()))) = some (v, (c', ())) ∧ 0 ≤ v ∧ v ≤ 255 ∧ COk k c' := by
    intro s'
    obtain ⟨n, hn, e⟩ := and255 (s'.fdiv (2 ^ min (40 : Int).toNat IntKind.u64.bits))
    unfold shrI
    rw [if_neg (by omega), Option.bind_some, e, wr (by omega) (by omega)]
    exact ⟨_, _, rfl, by omega, by omega, key s'⟩
  unfold spec_l1Cur_next spec_l1Cur_next_s
  dsimp only
  rw [hw]
  by_cases ha : a < (l.length : Int)
  · rw [cdt ha]
    have hal : a.toNat < l.length := by omega
    have e : atI l a = some l[a.toNat] := by
      have := atI_lt l a.toNat hal
      rwa [show ((a.toNat : Nat) : Int) = a by omega] at this
    have hb := h3 _ (List.getElem_mem hal)
    rw [e, Option.bind_some]
    by_cases c : a + 1 ≤ (l.length : Int)
    · rw [cdt c, wr (by omega) (by omega)]
      exact ⟨_, _, rfl, hb.1, hb.2, key _⟩
    · rw [cdf c]
      exact tail _
  · rw [cdf ha]
    by_cases c : a + 1 ≤ (l.length : Int)
    · rw [cdt c]
      exact ⟨_, _, rfl, by omega, by omega, key _⟩
    · rw [cdf c]
      exact tail _

theorem COk.mono {k j : Nat} {c : Cu} (h : COk k c) (hj : j ≤ k) : COk j c := by
  obtain ⟨h0, h1, h2, h3⟩ := h
  exact ⟨h0, by omega, h2, h3⟩

theorem remI_pos {a n : Int} (ha : 0 ≤ a) (hn : 0 < n) : ∃ v, remI a n = some v ∧ 0 ≤ v ∧ v < n := by
  refine ⟨a.tmod n, ?_, Int.tmod_nonneg n ha, Int.tmod_lt_of_pos a hn⟩
  unfold remI
  rw [if_neg (by omega)]

theorem cur_pick {k : Nat} {c : Cu} (h : COk (k + 2) c) (n : Int) : ∃ v c', spec_l1Cur_pick c n = some (v, (c', ())) ∧ 0 ≤ v ∧ (1 ≤ n → v < n) ∧ COk k c' := by
  unfold spec_l1Cur_pick spec_l1Cur_pick_s
  by_cases h1 : n ≤ 1
  · rw [cdt h1]
    exact ⟨_, _, rfl, by omega, by omega, h.mono (by omega)⟩
  · obtain ⟨v, c1, e1, a1, a2, k1⟩ := cur_next (k := k + 1) h
    rw [cdf h1, e1, Option.bind_some]
    by_cases h2 : 200 < n
    · obtain ⟨v2, c2, e2, b1, b2, k2⟩ := cur_next k1
      rw [cdt h2]
      dsimp only
      rw [e2, Option.bind_some]
      dsimp only
      rw [wr (n := v * 256) (by omega) (by omega), wr (by omega) (by omega)]
      obtain ⟨z, ez, z0, z1⟩ := remI_pos (a := v * 256 + v2) (n := n) (by omega) (by omega)
      rw [ez, Option.bind_some]
      exact ⟨_, _, rfl, z0, fun _ => z1, k2⟩
    · rw [cdf h2]
      dsimp only
      obtain ⟨z, ez, z0, z1⟩ := remI_pos (a := v) (n := n) a1 (by omega)
      rw [ez, Option.bind_some]
      exact ⟨_, _, rfl, z0, fun _ => z1, k1.mono (by omega)⟩

theorem cur_one {k : Nat} {c : Cu} (h : COk (k + 2) c) (n : Int) : ∃ b c', spec_l1Cur_one c n = some (b, (c', ())) ∧ COk k c' := by
  obtain ⟨v, c1, e1, _, _, k1⟩ := cur_pick h n
  unfold spec_l1Cur_one spec_l1Cur_one_s
  rw [e1, Option.bind_some]
  exact ⟨_, _, rfl, k1⟩

theorem cur_among {k : Nat} {c : Cu} (h : COk (k + 2) c) {l : List Int} (hl : l ≠ []) : ∃ v c', spec_l1Cur_among c l = some (v, (c', ())) ∧ v ∈ l ∧ COk k c' := by
  obtain ⟨v, c1, e1, h0, h1, k1⟩ := cur_pick h (l.length : Int)
  have hp := List.length_pos_iff.2 hl
  have hv := h1 (by omega)
  have hvl : v.toNat < l.length := by omega
  have e : atI l v = some l[v.toNat] := by
    have := atI_lt l v.toNat hvl
    rwa [show ((v.toNat : Nat) : Int) = v by omega] at this
  unfold spec_l1Cur_among spec_l1Cur_among_s
  rw [e1, Option.bind_some]
  dsimp only
  rw [e, Option.bind_some]
  exact ⟨_, _, rfl, List.getElem_mem hvl, k1⟩

theorem put28 {g : Int} {a b : List Int} (h : a.length + b.length ≤ 1000000) : spec_l28Put g a b = some (g :: (a ++ b), ()) := by
  unfold spec_l28Put spec_l28Put_s
  rw [appI_ok (by simp; omega), Option.bind_some, appI_ok (by simp; omega), Option.bind_some]
  rfl

theorem cur_word28 : ∀ (n s k d : Nat) (c : Cu), s ≤ n → 1 ≤ s → s ≤ 1000 → s < d → COk (8 * s - 6 + k) c → ∃ w c', R_spec_l1Cur_word28 d (c, (s : Int), ()) = some (w, (c', ())) ∧ 1 ≤ w.length ∧ w.length + 1 ≤ 2 * s ∧ COk k c'
  | 0, s, k, d, c, hn, h1, _, _, _ => by omega
  | n + 1, s, k, 0, c, hn, h1, _, hd, _ => by omega
  | n + 1, s, k, d + 1, c, hn, h1, h3, hd, h => by
    show ∃ w c', spec_l1Cur_word28 (R_spec_l1Cur_word28 d) c (s : Int) = some (w, (c', ())) ∧ _
    unfold spec_l1Cur_word28 spec_l1Cur_word28_s
    by_cases hs : s = 1
    · obtain ⟨v, c1, e1, _, _, k1⟩ := cur_pick (k := k) (h.mono (by omega)) 4
      rw [cdt (by omega), e1, Option.bind_some]
      exact ⟨_, _, rfl, by simp, by simp; omega, k1⟩
    · rw [cdf (by omega)]
      obtain ⟨b, c1, e1, k1⟩ := cur_one (k := 8 * s - 8 + k) (h.mono (by omega)) 4
      rw [e1, Option.bind_some]
      dsimp only
      cases b with
      | true =>
        obtain ⟨v, c2, e2, _, _, k2⟩ := cur_pick (k := k) (k1.mono (by omega)) 4
        rw [cond_true, e2, Option.bind_some]
        exact ⟨_, _, rfl, by simp, by simp; omega, k2⟩
      | false =>
        rw [cond_false, wr (n := (s : Int) - 1) (by omega) (by omega)]
        obtain ⟨v, c2, e2, v0, v1, k2⟩ := cur_pick (k := 8 * s - 10 + k) (k1.mono (by omega)) ((s : Int) - 1)
        have hv := v1 (by omega)
        rw [e2, Option.bind_some]
        dsimp only
        obtain ⟨g, c3, e3, g0, g1, k3⟩ := cur_pick (k := 8 * s - 12 + k) (k2.mono (by omega)) 2
        have hg := g1 (by omega)
        rw [e3, Option.bind_some]
        dsimp only
        obtain ⟨m, rfl⟩ : ∃ m : Nat, v = (m : Int) := ⟨v.toNat, by omega⟩
        rw [wr (n := 1 + (m : Int)) (by omega) (by omega), show (1 + (m : Int)) = ((m + 1 : Nat) : Int) by omega, wr (n := (s : Int) - ((m + 1 : Nat) : Int)) (by omega) (by omega), show (s : Int) - ((m + 1 : Nat) : Int) = ((s - (m + 1) : Nat) : Int) by omega]
        obtain ⟨w1, c4, e4, a1, a2, k4⟩ := cur_word28 n (m + 1) (8 * (s - (m + 1)) - 6 + k) d c3 (by omega) (by omega) (by omega) (by omega) (k3.mono (by omega))
        rw [e4, Option.bind_some]
        dsimp only
        obtain ⟨w2, c5, e5, b1, b2, k5⟩ := cur_word28 n (s - (m + 1)) k d c4 (by omega) (by omega) (by omega) (by omega) k4
        rw [e5, Option.bind_some]
        dsimp only
        rw [put28 (by omega), Option.bind_some]
        exact ⟨_, _, rfl, by simp, by simp; omega, k5⟩

theorem cur_loop : ∀ (m j k : Nat) (c : Cu) (w : List Int), 42 ≤ w.length + j → j < m → w.length ≤ 100 → COk (6 * j + 2 + k) c → ∃ w' c', spec_l1Cur_word_l10 big spec_l1Cur_word_a10 m c w = some (w', (c', ())) ∧ w'.length ≤ 100 ∧ COk k c'
  | 0, j, k, c, w, _, hm, _, _ => by omega
  | m + 1, j, k, c, w, hj, hm, hl, h => by
    obtain ⟨v, c1, e1, v0, v1, k1⟩ := cur_pick (k := 6 * j + k) (h.mono (by omega)) 4
    have hv := v1 (by omega)
    simp only [spec_l1Cur_word_l10, spec_l1Cur_word_b10]
    rw [e1, Option.bind_some]
    dsimp only
    rw [wr (n := 38 + v) (by omega) (by omega)]
    by_cases hw : (w.length : Int) < 38 + v
    · obtain ⟨g, c2, e2, _, _, k2⟩ := cur_pick (k := 6 * j - 2 + k) (k1.mono (by omega)) 2
      obtain ⟨x, c3, e3, _, _, k3⟩ := cur_pick (k := 6 * j - 4 + k) (k2.mono (by omega)) 5
      rw [cdt hw, e2, Option.bind_some]
      dsimp only
      rw [e3, Option.bind_some]
      dsimp only
      rw [put28 (by simp; omega), Option.bind_some]
      exact cur_loop m (j - 1) k c3 _ (by simp; omega) (by omega) (by simp; omega) (k3.mono (by omega))
    · rw [cdf hw]
      exact ⟨_, _, rfl, hl, k1.mono (by omega)⟩

theorem cur_word {k : Nat} {c : Cu} (h : COk (400 + k) c) : ∃ w c', spec_l1Cur_word big c = some (w, (c', ())) ∧ w.length ≤ 100 ∧ COk k c' := by
  have hb := big_ge
  unfold spec_l1Cur_word spec_l1Cur_word_s
  obtain ⟨s, c1, e1, hs, k1⟩ := cur_among (k := 398 + k) (h.mono (by omega)) (l := [(1 : Int), 2, 3, 4, 5, 6, 7]) (by simp)
  have hs1 : 1 ≤ s ∧ s ≤ 7 := by simp at hs; omega
  rw [e1, Option.bind_some]
  dsimp only
  obtain ⟨n, rfl⟩ : ∃ n : Nat, s = (n : Int) := ⟨s.toNat, by omega⟩
  obtain ⟨w, c2, e2, w0, w1, k2⟩ := cur_word28 n n (340 + k) big c1 (Nat.le_refl _) (by omega) (by omega) (by omega) (k1.mono (by omega))
  rw [e2, Option.bind_some]
  dsimp only
  obtain ⟨v, c3, e3, v0, v1, k3⟩ := cur_pick (k := 338 + k) (k2.mono (by omega)) 24
  rw [e3, Option.bind_some]
  dsimp only
  by_cases h0 : v = 0
  · obtain ⟨x, c4, e4, _, k4⟩ := cur_among (k := k) (k3.mono (by omega)) (l := [(0 : Int), -1]) (by simp)
    rw [cdt h0, e4, Option.bind_some]
    dsimp only
    rw [app1 (by omega), Option.bind_some]
    exact ⟨_, _, rfl, by simp; omega, k4⟩
  · rw [cdf h0]
    by_cases h1 : v = 1
    · obtain ⟨i, c4, e4, i0, i1, k4⟩ := cur_pick (k := 2 + k) (k3.mono (by omega)) (w.length : Int)
      obtain ⟨x, c5, e5, _, k5⟩ := cur_among (k := k) (k4.mono (by omega)) (l := [(-3 : Int), 5, 4, -1, 0]) (by simp)
      have hi := i1 (by omega)
      have hil : i.toNat < w.length := by omega
      have ea : atI w i = some w[i.toNat] := by
        have := atI_lt w i.toNat hil
        rwa [show ((i.toNat : Nat) : Int) = i by omega] at this
      rw [cdt h1, e4, Option.bind_some]
      dsimp only
      rw [e5, Option.bind_some, ea, Option.bind_some, List.getElem?_eq_getElem hil, Option.bind_some]
      exact ⟨_, _, rfl, by simp; omega, k5⟩
    · rw [cdf h1]
      by_cases h2 : v = 2
      · rw [cdt h2, show (1 : Int) = ((1 : Nat) : Int) from rfl, slI_nat w 1 w.length (by omega) (Nat.le_refl _), Option.bind_some]
        exact ⟨_, _, rfl, by simp; omega, k3.mono (by omega)⟩
      · rw [cdf h2]
        by_cases h3 : v = 3
        · rw [cdt h3]
          exact cur_loop big 42 k c3 w (by omega) (by omega) (by omega) (k3.mono (by omega))
        · rw [cdf h3]
          exact ⟨_, _, rfl, by omega, k3.mono (by omega)⟩

def Codes (code : List Int) : Prop := code.length ≤ 65536 ∧ ∀ x ∈ code, 0 ≤ x ∧ x ≤ 255

theorem Codes.start {code : List Int} (h : Codes code) : COk 10000 (code, (0 : Int), (0 : Int), ()) := ⟨Int.le_refl _, by show (0 : Int) + (10000 : Nat) ≤ _; omega, h.1, h.2⟩

theorem draw_isWord {code : List Int} (h : Codes code) : ∃ w, spec_DrawIsWord code = some (w, ()) ∧ w.length ≤ 100 := by
  obtain ⟨w, c1, e1, h1, _⟩ := cur_word (k := 9600) (h.start.mono (by omega))
  unfold spec_DrawIsWord spec_DrawIsWord_s
  rw [e1, Option.bind_some]
  exact ⟨w, rfl, h1⟩

theorem draw_wordText {code : List Int} (h : Codes code) : ∃ w, spec_DrawWordText code = some (w, ()) ∧ w.length ≤ 100 := by
  obtain ⟨w, e1, h1⟩ := draw_isWord h
  unfold spec_DrawWordText spec_DrawWordText_s
  rw [e1, Option.bind_some]
  exact ⟨w, rfl, h1⟩

theorem draw_below {code : List Int} (h : Codes code) : ∃ s t, spec_DrawWordBelow code = some ((s, t, ()), ()) ∧ s.length ≤ 300 ∧ t.length ≤ 300 := by
  obtain ⟨s, c1, e1, h1, k1⟩ := cur_word (k := 9600) (h.start.mono (by omega))
  obtain ⟨t, c2, e2, h2, k2⟩ := cur_word (k := 9000) (k1.mono (by omega))
  unfold spec_DrawWordBelow spec_DrawWordBelow_s
  rw [e1, Option.bind_some]
  dsimp only
  rw [e2, Option.bind_some]
  dsimp only
  rw [l28Two_eq, Option.bind_some]
  dsimp only
  cases isWord s && isWord t with
  | false => exact ⟨_, _, rfl, by omega, by omega⟩
  | true =>
    obtain ⟨v, c3, e3, _, _, _⟩ := cur_pick (k := 8000) (k2.mono (by omega)) 4
    rw [cond_true, e3, Option.bind_some]
    dsimp only
    by_cases v0 : v = 0
    · rw [cdt v0, put28 (by omega), Option.bind_some]
      exact ⟨_, _, rfl, by simp; omega, by omega⟩
    · rw [cdf v0]
      by_cases v1 : v = 1
      · rw [cdt v1, put28 (by omega), Option.bind_some]
        exact ⟨_, _, rfl, by omega, by simp; omega⟩
      · rw [cdf v1]
        exact ⟨_, _, rfl, by omega, by omega⟩

theorem draw_subst {code : List Int} (h : Codes code) : ∃ u x w, spec_DrawSubstituteWord code = some ((u, x, w, ()), ()) ∧ u.length ≤ 100 ∧ w.length ≤ 100 ∧ -1 ≤ x ∧ x ≤ 5 := by
  obtain ⟨s, c1, e1, h1, k1⟩ := cur_word (k := 9600) (h.start.mono (by omega))
  obtain ⟨v, c2, e2, v0, v1, k2⟩ := cur_pick (k := 9000) (k1.mono (by omega)) 24
  have hv := v1 (by omega)
  obtain ⟨n, rfl⟩ : ∃ n : Nat, v = (n : Int) := ⟨v.toNat, by omega⟩
  have hq : n / 11 ≤ 2 := by omega
  have hne : ([(0 : Int), 1, 2, 4, -1, 5]).take (4 + n / 11) ≠ [] := by simp
  obtain ⟨x, c3, e3, hx, k3⟩ := cur_among (k := 8000) (k2.mono (by omega)) hne
  obtain ⟨w, c4, e4, h4, _⟩ := cur_word (k := 7000) (k3.mono (by omega))
  have hx2 := List.mem_of_mem_take hx
  unfold spec_DrawSubstituteWord spec_DrawSubstituteWord_s
  rw [e1, Option.bind_some]
  dsimp only
  rw [e2, Option.bind_some]
  dsimp only
  rw [show (11 : Int) = ((11 : Nat) : Int) from rfl, quo_nat (by omega) (by omega), Option.bind_some, wr (by omega) (by omega), show (4 : Int) + ((n / 11 : Nat) : Int) = ((4 + n / 11 : Nat) : Int) by omega, slI_take _ _ (by simp; omega), Option.bind_some, e3, Option.bind_some]
  dsimp only
  rw [e4, Option.bind_some]
  refine ⟨_, _, _, rfl, h1, h4, ?_⟩
  simp at hx2
  omega

theorem sl0 {α : Type} (xs : List α) (n : Nat) (h : n ≤ xs.length) : slI xs 0 (n : Int) = some (xs.take n) := by
  have := slI_nat xs 0 n (Nat.zero_le _) h
  simpa using this

theorem slE {α : Type} (xs : List α) (n : Nat) (h : n ≤ xs.length) : slI xs (n : Int) (xs.length : Int) = some (xs.drop n) := by
  have := slI_nat xs n xs.length h (Nat.le_refl _)
  rwa [List.take_of_length_le (by simp)] at this

theorem cur_spoilt {k : Nat} {c : Cu} (h : COk (6 + k) c) {t W : List UInt8} (ht : 1 ≤ t.length) (ht2 : t.length ≤ 1000) (hW : 1 ≤ W.length) (hW2 : W.length ≤ 1000) : ∃ u c', spec_l1Cur_spoilt c t W = some (u, (c', ())) ∧ u.length ≤ 2000 ∧ COk k c' := by
  have h0 : ¬ t = [] := fun e => by rw [e] at ht; simp at ht
  obtain ⟨i, c1, e1, i0, i1, k1⟩ := cur_pick (k := 4 + k) (h.mono (by omega)) (t.length : Int)
  obtain ⟨j, c2, e2, j0, j1, k2⟩ := cur_pick (k := 2 + k) (k1.mono (by omega)) (W.length : Int)
  obtain ⟨z, c3, e3, _, _, k3⟩ := cur_pick (k := k) (k2.mono (by omega)) 3
  have hi := i1 (by omega)
  have hj := j1 (by omega)
  obtain ⟨i, rfl⟩ : ∃ n : Nat, i = (n : Int) := ⟨i.toNat, by omega⟩
  obtain ⟨j, rfl⟩ : ∃ n : Nat, j = (n : Int) := ⟨j.toNat, by omega⟩
  unfold spec_l1Cur_spoilt spec_l1Cur_spoilt_s
  rw [cdf h0, e1, Option.bind_some]
  dsimp only
  rw [e2, Option.bind_some]
  dsimp only
  have s1 := sl0 (W.drop j) 1 (by simp; omega)
  rw [slE W j (by omega), Option.bind_some, show (1 : Int) = ((1 : Nat) : Int) from rfl, s1, Option.bind_some, e3, Option.bind_some]
  dsimp only
  have l1 : ((W.drop j).take 1).length ≤ 1 := by simp; omega
  have l2 : (t.take i).length ≤ 1000 := by simp; omega
  have l3 : (t.drop i).length ≤ 1000 := by simp; omega
  have l4 : (t.drop (i + 1)).length ≤ 999 := by simp; omega
  have w1 : IntKind.i64.wrap ((i : Int) + ((1 : Nat) : Int)) = ((i + 1 : Nat) : Int) := by rw [wr (by omega) (by omega)]; omega
  by_cases z0 : z = 0
  · rw [cdt z0, sl0 t i (by omega), Option.bind_some, appI_ok (by omega), Option.bind_some, slE t i (by omega), Option.bind_some, appI_ok (by simp only [List.length_append]; omega), Option.bind_some]
    exact ⟨_, _, rfl, by simp only [List.length_append, List.length_take, List.length_drop]; omega, k3⟩
  · rw [cdf z0]
    by_cases z1 : z = ((1 : Nat) : Int)
    · rw [cdt z1, sl0 t i (by omega), Option.bind_some, appI_ok (by omega), Option.bind_some, w1, slE t (i + 1) (by omega), Option.bind_some, appI_ok (by simp only [List.length_append]; omega), Option.bind_some]
      exact ⟨_, _, rfl, by simp only [List.length_append, List.length_take, List.length_drop]; omega, k3⟩
    · rw [cdf z1, sl0 t i (by omega), Option.bind_some, w1, slE t (i + 1) (by omega), Option.bind_some, appI_ok (by omega), Option.bind_some]
      exact ⟨_, _, rfl, by simp only [List.length_append, List.length_take, List.length_drop]; omega, k3⟩

theorem draw_parse {code : List Int} (h : Codes code) : ∃ t, spec_DrawParseWord code = some (t, ()) ∧ t.length ≤ 2000 := by
  have hb := big_ge
  obtain ⟨w, c1, e1, h1, k1⟩ := cur_word (k := 9600) (h.start.mono (by omega))
  obtain ⟨b, c2, e2, k2⟩ := cur_one (k := 9000) (k1.mono (by omega)) 3
  unfold spec_DrawParseWord spec_DrawParseWord_s
  rw [e1, Option.bind_some]
  dsimp only
  rw [l28Good_eq, Option.bind_some]
  cases hw : isWord w with
  | true =>
    obtain ⟨A, hA, rfl⟩ := word_tree hw
    have hl := ((isWord_iff _).1 hw).1
    have h2 := tx_len A
    have h3 := fl_tx A
    have h4 := A.pos
    dsimp only
    rw [cond_true, specText_eq A hA (by omega) big (by omega), Option.bind_some]
    dsimp only
    rw [e2, Option.bind_some]
    dsimp only
    cases b with
    | true =>
      obtain ⟨u, c3, e3, h5, _⟩ := cur_spoilt (k := 8000) (k2.mono (by omega)) (t := A.tx) (W := [97, 98, 40, 38, 124, 41]) (by omega) (by omega) (by simp) (by simp)
      rw [cond_true, e3, Option.bind_some]
      exact ⟨_, rfl, h5⟩
    | false => exact ⟨_, rfl, by omega⟩
  | false =>
    dsimp only
    rw [cond_false, e2, Option.bind_some]
    dsimp only
    cases b with
    | true =>
      obtain ⟨u, c3, e3, h5, _⟩ := cur_spoilt (k := 8000) (k2.mono (by omega)) (t := [40, 97, 38, 98, 41]) (W := [97, 98, 40, 38, 124, 41]) (by simp) (by simp) (by simp) (by simp)
      rw [cond_true, e3, Option.bind_some]
      exact ⟨_, rfl, h5⟩
    | false => exact ⟨_, rfl, by simp⟩

def lsb (l : Int) (S : Wd) (n : Int) : Wd := if n = l then S else .v n

theorem subst_append (l : Int) (s : List Int) : ∀ a b : List Int, subst l s (a ++ b) = subst l s a ++ subst l s b
  | [], b => by simp [subst]
  | x :: a, b => by
    have ih := subst_append l s a b
    simp only [List.cons_append, subst]
    split <;> simp [ih]

theorem subst_fl {l : Int} (hl : 0 ≤ l) {S : Wd} : ∀ A : Wd, A.ok → subst l S.fl A.fl = (A.sb (lsb l S)).fl
  | .v n, h => by
    simp only [Wd.fl, subst, Wd.sb, lsb]
    split <;> simp_all [Wd.fl]
  | .op g a b, h => by
    have hg := h.1
    have ia := subst_fl hl (S := S) a h.2.1
    have ib := subst_fl hl (S := S) b h.2.2
    simp only [Wd.fl, Wd.sb, subst, subst_append, ia, ib]
    rw [if_neg (by omega)]

theorem rInts_eq (a b : List Int) (h : a.length ≤ 400000000000) : laws_rInts big a b = some (decide (a = b), ()) := by
  unfold laws_rInts laws_rInts_s
  by_cases hl : a.length = b.length
  · rw [cdf (by omega)]
    refine laws_rInts_h4 a.length (fun i => a.take i = b.take i) (by omega) (fun rc i hi hI hr => ?_) (fun rc hI => ?_) 0 (by omega) (by simp)
    · unfold laws_rInts_b4
      rw [cdt (by omega), atI_lt a i hi, Option.bind_some, atI_lt b i (by omega), Option.bind_some]
      by_cases e : a[i] = b[i]
      · rw [cdf (by simp [e]), wr (by omega) (by omega), show (i : Int) + 1 = ((i + 1 : Nat) : Int) by omega]
        refine hr ?_
        show a.take (i + 1) = b.take (i + 1)
        rw [List.take_succ_eq_append_getElem hi, List.take_succ_eq_append_getElem (show i < b.length by omega), e]
        have hI : a.take i = b.take i := hI
        rw [hI]
      · rw [cdt e]
        have : a ≠ b := fun c => by subst c; exact e rfl
        simp [this]
    · unfold laws_rInts_b4 laws_rInts_a4
      have hI : a.take a.length = b.take a.length := hI
      rw [List.take_of_length_le (Nat.le_refl _), List.take_of_length_le (by omega)] at hI
      rw [cdf (by omega)]
      simp [hI]
  · have : a ≠ b := fun c => hl (by rw [c])
    rw [cdt (by omega)]
    simp [this]

theorem subst_self (l : Int) : ∀ w : List Int, subst l [l] w = w
  | [] => rfl
  | x :: xs => by
    rw [subst, subst_self l xs]
    split
    · rename_i e; rw [e]; rfl
    · rfl

theorem codes_of {code : List Int} (hw : Wf (.pair (.sl (.int .u8)) .unit) (code, ())) (h : code.length ≤ 65536) : Codes code := by
  refine ⟨h, fun x hx => ?_⟩
  have := hw.1.2 x hx
  have h2 : (Lit.int .u8 x).wf = true := this
  simp only [Lit.wf, Bool.and_eq_true, decide_eq_true_eq] at h2
  have e1 : IntKind.u8.min = 0 := rfl
  have e2 : IntKind.u8.max = 255 := rfl
  rw [e1, e2] at h2
  exact h2

def tlets (h : List Bool) : List Int := (List.range h.length).filterMap fun (j : Nat) => if h[j]? = some true then some (Int.ofNat j) else none

def tall5 : List (List Bool) := [false, true].flatMap fun a => [false, true].flatMap fun b => [false, true].flatMap fun c => [false, true].flatMap fun d => [false, true].map fun e => [a, b, c, d, e]

theorem mem_tall5 {h : List Bool} (hl : h.length = 5) : h ∈ tall5 := by
  match h, hl with
  | [a, b, c, d, e], _ => cases a <;> cases b <;> cases c <;> cases d <;> cases e <;> decide

def okTlets (h : List Bool) : Bool := decide (impl_marked big h = some (tlets h, ())) && decide ((tlets h).length ≤ 5)

theorem okTlets_all : tall5.all okTlets = true := by kernel_rfl

theorem tlets_ok {h : List Bool} (hl : h.length = 5) : impl_marked big h = some (tlets h, ()) ∧ (tlets h).length ≤ 5 := by
  have := List.all_eq_true.1 okTlets_all h (mem_tall5 hl)
  unfold okTlets at this
  simp only [Bool.and_eq_true, decide_eq_true_eq] at this
  exact this

def tflg : List Int → List Bool → List Bool
  | [], h => h
  | x :: xs, h => tflg xs (if 0 ≤ x then h.set x.toNat true else h)

theorem tflg_len : ∀ (xs : List Int) (h : List Bool), (tflg xs h).length = h.length
  | [], _ => rfl
  | x :: xs, h => by
    simp only [tflg]
    rw [tflg_len xs]
    split <;> simp

theorem tLets_l (N : Nat) (k : List Bool → Option ((List Int × (Bool × Unit)) × Unit)) : ∀ (n : Nat) (w : List Int) (h : List Bool) (i : Nat), w.length - i < n → i ≤ w.length → w.length ≤ 1000000 → h.length = 5 → (∀ x ∈ w, -2 ≤ x ∧ x < 5) →
    impl_LettersOf_l5 N k n h w (w.length : Int) i = k (tflg (w.drop i) h)
  | 0, _, _, _, h, _, _, _, _ => by omega
  | n + 1, w, h, i, hn, hi, hb, hl, hw => by
    simp only [impl_LettersOf_l5, impl_LettersOf_b5]
    by_cases hlt : i < w.length
    · have hx := hw w[i] (List.getElem_mem hlt)
      rw [cdt (by omega), atI_lt w i hlt, Option.bind_some, wr (n := (i : Int) + 1) (by omega) (by omega), show ((i : Int) + 1) = ((i + 1 : Nat) : Int) by omega, List.drop_eq_getElem_cons hlt]
      simp only [tflg]
      by_cases h0 : 0 ≤ w[i]
      · have e : w[i] = ((w[i].toNat : Nat) : Int) := by omega
        have hlt2 : w[i].toNat < h.length := by omega
        have ha : atI h w[i] = some h[w[i].toNat] := by
          conv => lhs; rw [e]
          exact atI_lt h _ hlt2
        rw [cdt h0, ha, Option.bind_some, List.getElem?_eq_getElem hlt2, Option.bind_some, if_pos h0, tLets_l N k n w _ (i + 1) (by omega) (by omega) hb (by simpa using hl) hw]
      · rw [cdf h0, if_neg h0, tLets_l N k n w h (i + 1) (by omega) (by omega) hb hl hw]
    · rw [cdf (by omega), List.drop_eq_nil_of_le (by omega)]
      rfl

def tlettersV (w : List Int) : List Int := tlets (tflg w (List.replicate 5 false))

theorem tLetters_eq {w : List Int} (h : isWord w = true) : impl_LettersOf big w = some ((tlettersV w, true, ()), ()) := by
  have hg := big_ge
  unfold impl_LettersOf impl_LettersOf_s tlettersV
  have h1 := isWord_len h
  have e5 : mkI false (5 : Int) = some (List.replicate 5 false) := mkI_nat false 5 (by omega)
  rw [implIsWord_eq, Option.bind_some, h]
  simp only [Bool.not_true, cond_false, e5, Option.bind_some]
  rw [cdt (by omega)]
  unfold impl_LettersOf_F5
  have := tLets_l big impl_LettersOf_a5 big w (List.replicate 5 false) 0 (by omega) (by omega) (by omega) (by simp) (isWord_mem h)
  refine Eq.trans this ?_
  simp only [List.drop_zero, impl_LettersOf_a5]
  rw [(tlets_ok (by rw [tflg_len]; simp)).1, Option.bind_some]

theorem mem_tletters {x : Int} {w : List Int} (hx : x ∈ tlettersV w) : 0 ≤ x ∧ x < 5 := by
  unfold tlettersV tlets at hx
  obtain ⟨j, hj, e⟩ := List.mem_filterMap.1 hx
  split at e
  · cases e
    have := List.mem_range.1 hj
    rw [tflg_len] at this
    simp at this
    constructor
    · show (0 : Int) ≤ (j : Int); omega
    · show (j : Int) < 5; omega
  · cases e

theorem tletters_len (w : List Int) : (tlettersV w).length ≤ 5 := (tlets_ok (by rw [tflg_len]; simp)).2

theorem tMembers_ok {sign : Int} (hs : sign < 0) : ∀ (n : Nat) (w : List Int), w.length ≤ n → n ≤ 1000 → we w 1 0 = some w.length →
    ∃ ms, (∀ d, n < d → R_impl_membersOf d (w, sign, ()) = some (ms, ())) ∧ 1 ≤ ms.length ∧ ms.length ≤ w.length
  | n, [], _, _, h => by simp [we] at h
  | 0, x :: xs, h, _, _ => by simp at h
  | n + 1, x :: xs, hl, hn, h => by
    simp only [List.length_cons] at hl h
    by_cases hx : x = sign
    · subst hx
      simp only [we] at h
      split at h
      · cases h
      rw [if_neg (by omega)] at h
      obtain ⟨e, h1, h2, h3, h4⟩ := we_split xs 1 1 1 _ h
      have p2 := (parts_eq (x := x) (by omega) h1 h3).2
      have ht := we_take xs 1 1 e h1
      have l1 : (xs.take (e - 1)).length = e - 1 := by simp; omega
      have l2 : (xs.drop (e - 1)).length = xs.length - (e - 1) := by simp
      have w1 : we (xs.take (e - 1)) 1 0 = some (xs.take (e - 1)).length := we_back (c := 1) (by rw [ht, l1]; congr 1; omega)
      have w2 : we (xs.drop (e - 1)) 1 0 = some (xs.drop (e - 1)).length := we_back (c := e) (by rw [h4, l2]; congr 1; omega)
      obtain ⟨ma, a1, a0, a2⟩ := tMembers_ok hs n (xs.take (e - 1)) (by omega) (by omega) w1
      obtain ⟨mb, b1, b0, b2⟩ := tMembers_ok hs n (xs.drop (e - 1)) (by omega) (by omega) w2
      refine ⟨ma ++ mb, fun d hd => ?_, by simp; omega, by simp; omega⟩
      cases d with
      | zero => omega
      | succ d =>
        have ha := a1 d (by omega)
        have hb := b1 d (by omega)
        simp only [R_impl_membersOf, impl_membersOf, impl_membersOf_s]
        rw [show atI (x :: xs) (0 : Int) = some x from rfl, Option.bind_some, cdf (by simp), p2, Option.bind_some, ha, Option.bind_some, hb, Option.bind_some, appI_ok (by simp only; omega), Option.bind_some]
    · refine ⟨[x :: xs], fun d hd => ?_, by simp, by simp⟩
      cases d with
      | zero => omega
      | succ d =>
        simp only [R_impl_membersOf, impl_membersOf, impl_membersOf_s]
        rw [show atI (x :: xs) (0 : Int) = some x from rfl, Option.bind_some, cdt hx, clone_eq _ (by simp; omega), Option.bind_some]

theorem membersOf_ne {w : List Int} (h : isWord w = true) : ∃ ms : List (List Int), impl_MembersOf w = some ((ms, true, ()), ()) ∧ 1 ≤ ms.length := by
  have hg := big_ge
  unfold impl_MembersOf impl_MembersOf_s
  rw [implIsWord_eq, Option.bind_some, h]
  have h1 := isWord_len h
  have h2 := ((isWord_iff w).1 h).2
  cases w with
  | nil => simp [we] at h2
  | cons x xs =>
    simp only [Bool.not_true, cond_false]
    rw [show atI (x :: xs) (0 : Int) = some x from rfl]
    simp only [Option.bind_some]
    by_cases h0 : 0 ≤ x
    · rw [cdt h0, clone_eq _ (by omega)]
      exact ⟨[x :: xs], rfl, by simp⟩
    · rw [cdf h0]
      obtain ⟨ms, m1, m2, m3⟩ := tMembers_ok (sign := x) (by omega) 40 (x :: xs) h1 (by omega) h2
      rw [m1 big (by omega)]
      exact ⟨ms, rfl, m2⟩

theorem below_keeps {a b by_ : List Int} {l : Int} (h1 : (substV a l by_).2.1 = true) (h2 : (substV b l by_).2.1 = true) :
    ∃ p q : Bool, impl_WordBelow a b = some ((p, true, ()), ()) ∧ impl_WordBelow (substV a l by_).1 (substV b l by_).1 = some ((q, true, ()), ()) ∧ (p = true → q = true) := by
  unfold substV at h1 h2 ⊢
  split at h1
  · rename_i ha
    split at h2
    · rename_i hb
      rw [if_pos ha, if_pos hb]
      simp only [Bool.and_eq_true, decide_eq_true_eq] at ha hb
      have wa := isWord_subst ha.1.2.1 ha.1.1.1 ha.1.1.2
      have wb := isWord_subst hb.1.2.1 hb.1.1.1 hb.1.1.2
      rw [decide_eq_true ha.2] at wa
      rw [decide_eq_true hb.2] at wb
      obtain ⟨A, hA, rfl⟩ := word_tree ha.1.1.1
      obtain ⟨B, hB, rfl⟩ := word_tree hb.1.1.1
      obtain ⟨S, hS, rfl⟩ := word_tree ha.1.1.2
      have eA := subst_fl ha.1.2.1 (S := S) A hA
      have eB := subst_fl ha.1.2.1 (S := S) B hB
      have hs : ∀ n, (if 0 ≤ n ∧ n < 5 then lsb l S n else Wd.v 0).ok := fun n => by
        split
        · rename_i hn
          unfold lsb
          split
          · exact hS
          · exact hn
        · exact ⟨Int.le_refl _, by omega⟩
      have fix : ∀ C : Wd, C.ok → C.sb (fun n => if 0 ≤ n ∧ n < 5 then lsb l S n else Wd.v 0) = C.sb (lsb l S) := by
        intro C
        induction C with
        | v n => intro h; exact if_pos h
        | op g c d ic id => intro h; show Wd.op g _ _ = Wd.op g _ _; rw [ic h.2.1, id h.2.2]
      have oA := sb_ok hs hA
      have oB := sb_ok hs hB
      rw [fix A hA] at oA
      rw [fix B hB] at oB
      have key := wle_sb hs _ A B (Nat.le_refl _) hA hB
      rw [fix A hA, fix B hB] at key
      have hla := isWord_len ha.1.1.1
      have hlb := isWord_len hb.1.1.1
      have hla2 := ha.2
      have hlb2 := hb.2
      rw [eA] at wa hla2 ⊢
      rw [eB] at wb hlb2 ⊢
      refine ⟨wle A B, wle (A.sb (lsb l S)) (B.sb (lsb l S)), ?_, ?_, key⟩
      · unfold impl_WordBelow impl_WordBelow_s
        rw [areWords_eq, Option.bind_some, ha.1.1.1, hb.1.1.1, wordBelow_eq hA hB hla hlb]
        rfl
      · unfold impl_WordBelow impl_WordBelow_s
        rw [areWords_eq, Option.bind_some]
        simp only [wa, wb]
        rw [wordBelow_eq oA oB hla2 hlb2]
        rfl
    · cases h2
  · cases h1

theorem texts_tail {code : List Int} (hc : Codes code) : laws_FnWordTexts_a17 code = some (true, ()) := by
  obtain ⟨t, e1, ht⟩ := draw_parse hc
  obtain ⟨u, x, w, e2, hu, hw, _, _⟩ := draw_subst hc
  obtain ⟨a, b, e3, ha, hb⟩ := draw_below hc
  have hp := parseV_len t
  have hq := substV_len u x w
  unfold laws_FnWordTexts_a17
  rw [e1, Option.bind_some]
  dsimp only
  rw [implParse_eq, Option.bind_some, specParse_eq, Option.bind_some]
  dsimp only
  rw [show ((parseV t).2.1 != (parseV t).2.1) = false by simp, cond_false, rInts_eq _ _ (by omega), Option.bind_some]
  simp only [decide_true, Bool.not_true, cond_false]
  rw [e2, Option.bind_some]
  dsimp only
  rw [implSubst_eq, Option.bind_some, specSubst_eq, Option.bind_some]
  dsimp only
  rw [show ((substV u x w).2.1 != (substV u x w).2.1) = false by simp, cond_false, rInts_eq _ _ (by omega), Option.bind_some]
  simp only [decide_true, Bool.not_true, cond_false]
  rw [e3, Option.bind_some]
  dsimp only
  rw [implSubst_eq, Option.bind_some, implSubst_eq, Option.bind_some]
  dsimp only
  cases h1 : (substV a x w).2.1 with
  | false => rfl
  | true =>
    cases h2 : (substV b x w).2.1 with
    | false => rfl
    | true =>
      obtain ⟨p, q, k1, k2, k3⟩ := below_keeps h1 h2
      rw [cond_true, cond_true, k1, Option.bind_some, k2, Option.bind_some]
      dsimp only
      cases p with
      | false => rfl
      | true => rw [k3 rfl]; rfl

theorem true_FnWordTexts (code : List Int) (hw : Wf (.pair (.sl (.int .u8)) .unit) (code, ())) : laws_FnWordTexts big code = some (true, ()) := by
  unfold laws_FnWordTexts laws_FnWordTexts_s laws_rBig laws_rBig_s
  rw [Option.bind_some]
  dsimp only
  by_cases hl : code.length ≤ 65536
  case neg => rw [cdt (by omega)]
  have hc := codes_of hw hl
  obtain ⟨w, e1, hw1⟩ := draw_wordText hc
  obtain ⟨v, s1, s2⟩ := wordText_eq w
  have tl := texts_tail hc
  rw [cdf (by omega), e1, Option.bind_some]
  dsimp only
  rw [s2, Option.bind_some, s1, Option.bind_some]
  dsimp only
  rw [cdf (by simp), show (v.2.1 != v.2.1) = false by simp, cond_false]
  cases hv : v.2.1 with
  | false =>
    rw [cond_false]
    exact tl
  | true =>
    have hwd : isWord w = true := by
      cases c : isWord w with
      | true => rfl
      | false =>
        unfold impl_WordText impl_WordText_s at s2
        rw [implIsWord_eq, Option.bind_some, c] at s2
        simp only [Bool.not_false, cond_true] at s2
        cases s2
        cases hv
    obtain ⟨A, hA, rfl⟩ := word_tree hwd
    have hl40 := isWord_len hwd
    have ev : v.1 = A.tx := by
      unfold impl_WordText impl_WordText_s at s2
      rw [implIsWord_eq, Option.bind_some, hwd] at s2
      simp only [Bool.not_true, cond_false] at s2
      rw [implText_eq hA hl40, Option.bind_some] at s2
      cases s2
      rfl
    obtain ⟨ms, m1, m2⟩ := membersOf_ne hwd
    rw [cond_true, ev, implParse_eq, Option.bind_some, parseV_tx hA hl40]
    simp only [Bool.not_true, cond_false]
    rw [rInts_eq _ _ (by omega), Option.bind_some]
    simp only [decide_true, Bool.not_true, cond_false]
    have hlen := tletters_len A.fl
    rw [tLetters_eq hwd, Option.bind_some, m1, Option.bind_some]
    simp only [Bool.not_true, cond_false]
    rw [cdf (by omega)]
    have hmem : ∀ x ∈ tlettersV A.fl, 0 ≤ x ∧ x < 5 := fun x hx => mem_tletters hx
    generalize tlettersV A.fl = L at hlen hmem
    refine laws_FnWordTexts_h17 L.length (fun _ => True) (by omega) (fun rc i hi _ hr => ?_) (fun rc _ => ?_) 0 (by omega) trivial
    · have hx := hmem _ (List.getElem_mem hi)
      have hwx : isWord [L[i]] = true := isWord_fl (A := .v L[i]) hx
      unfold laws_FnWordTexts_b17
      rw [cdt (by omega), atI_lt L i hi, Option.bind_some, show ((i : Nat) : Int).toNat = i by omega, List.getElem?_eq_getElem hi, Option.bind_some, Option.bind_some, Option.bind_some, implSubst_eq, Option.bind_some]
      have es : substV A.fl L[i] [L[i]] = (A.fl, true, ()) := by
        unfold substV
        rw [subst_self, if_pos (by simp only [Bool.and_eq_true, decide_eq_true_eq]; exact ⟨⟨⟨hwd, hwx⟩, by omega⟩, by omega⟩)]
      rw [es]
      simp only [Bool.not_true, cond_false]
      rw [rInts_eq _ _ (by omega), Option.bind_some]
      simp only [decide_true, Bool.not_true, cond_false]
      rw [wr (by omega) (by omega), show (i : Int) + 1 = ((i + 1 : Nat) : Int) by omega]
      exact hr trivial
    · unfold laws_FnWordTexts_b17
      rw [cdf (by omega)]
      exact tl


end Go.Proofs.Ytcfhllnenhfigaa
