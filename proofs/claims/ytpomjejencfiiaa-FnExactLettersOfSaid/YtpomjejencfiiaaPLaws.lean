import Derived.Test.YtpomjejencfiiaaPLib
import Derived.Test.YtpomjejencfiiaaG1
set_option linter.unusedVariables false
namespace Go.Proofs.Ytpomjejencfiiaa
open Go Go.Gx Go.Proofs

/-! the laws' own helpers -/
theorem toIntS_l (N : Nat) (k : List Int → Option (List Int × Unit)) : ∀ (n : Nat) (a out : List Int) (i : Nat), a.length - i < n → i ≤ a.length → out.length = a.length → a.length ≤ 1099511627776 →
    laws_toIntS_l3 N k n a out i = k (out.take i ++ a.drop i)
  | 0, _, _, _, h, _, _, _ => by omega
  | n + 1, a, out, i, h, hi, ho, hb => by
    simp only [laws_toIntS_l3, laws_toIntS_b3]
    by_cases hlt : i < a.length
    · rw [cdt (by omega), atI_lt a i hlt, Option.bind_some, atI_lt out i (by omega), Option.bind_some, Int.toNat_natCast, List.getElem?_eq_getElem (by omega), Option.bind_some, wr (by omega) (by omega)]
      have := toIntS_l N k n a (out.set i a[i]) (i + 1) (by omega) (by omega) (by simpa using ho) hb
      rw [show ((i : Int) + 1) = ((i + 1 : Nat) : Int) by omega, this]
      congr 1
      rw [List.take_succ_eq_append_getElem (by simp; omega), List.take_set, List.set_eq_of_length_le (by simp [Nat.min_le_left]), List.append_assoc]
      congr 1
      rw [List.getElem_set_self, List.singleton_append, ← List.drop_eq_getElem_cons hlt]
    · rw [cdf (by omega)]
      have : i = a.length := by omega
      subst this
      rw [List.drop_length, List.append_nil, List.take_of_length_le (by omega)]

theorem toIntS_eq (a : List Int) (h : a.length ≤ 4294967296) : laws_toIntS big a = some (a, ()) := by
  have hb := big_ge
  unfold laws_toIntS laws_toIntS_s
  rw [mkI_nat _ _ h, Option.bind_some, Option.bind_some, cdt (by omega)]
  unfold laws_toIntS_F3
  have := toIntS_l big laws_toIntS_a3 big a (List.replicate a.length 0) 0 (by omega) (by omega) (by simp) (by omega)
  refine Eq.trans this ?_
  simp [laws_toIntS_a3]

theorem eqIntS_l (N : Nat) (k : Option (Bool × Unit)) : ∀ (n : Nat) (a b : List Int) (i : Nat), a.length - i < n → i ≤ a.length → b.length = a.length → a.length ≤ 1099511627776 →
    laws_eqIntS_l4 N k n a b i = if a.drop i = b.drop i then k else some (false, ())
  | 0, _, _, _, h, _, _, _ => by omega
  | n + 1, a, b, i, h, hi, hl, hb => by
    simp only [laws_eqIntS_l4, laws_eqIntS_b4]
    by_cases hlt : i < a.length
    · rw [cdt (by omega), atI_lt a i hlt, Option.bind_some, atI_lt b i (by omega), Option.bind_some, wr (by omega) (by omega)]
      have := eqIntS_l N k n a b (i + 1) (by omega) (by omega) hl hb
      rw [show ((i : Int) + 1) = ((i + 1 : Nat) : Int) by omega, this]
      rw [List.drop_eq_getElem_cons hlt, List.drop_eq_getElem_cons (show i < b.length by omega)]
      by_cases hx : a[i] = b[i]
      · rw [cdf (by simpa using hx), hx]; simp only [List.cons.injEq, true_and]
      · rw [cdt hx, if_neg (fun e => hx (by simp only [List.cons.injEq] at e; exact e.1))]
    · rw [cdf (by omega), List.drop_eq_nil_of_le (by omega), List.drop_eq_nil_of_le (by omega)]
      simp

theorem eqIntS_eq (a b : List Int) (h : a.length ≤ 1099511627775) : laws_eqIntS big a b = some (decide (a = b), ()) := by
  have hb := big_ge
  unfold laws_eqIntS laws_eqIntS_s
  by_cases hl : a.length = b.length
  · rw [cdf (by simp [hl])]
    unfold laws_eqIntS_F4
    have := eqIntS_l big laws_eqIntS_a4 big a b 0 (by omega) (by omega) (by omega) (by omega)
    rw [show (0 : Int) = ((0 : Nat) : Int) from rfl, this]
    simp only [List.drop_zero, laws_eqIntS_a4]
    by_cases he : a = b <;> simp [he]
  · rw [cdt (by omega)]
    have : a ≠ b := by rintro rfl; exact hl rfl
    simp [this]

/-! words -/
/-- reads on from a place where some words are still to come: where they end -/
def we : List Int → Nat → Nat → Option Nat
  | _, 0, c => some c
  | [], _ + 1, _ => none
  | x :: xs, n + 1, c => if x < -2 ∨ 5 ≤ x then none else if 0 ≤ x then we xs n (c + 1) else we xs (n + 2) (c + 1)

theorem we_zero (xs : List Int) (c : Nat) : we xs 0 c = some c := by cases xs <;> rfl

def wEnd (w : List Int) (i : Nat) : Int := match we (w.drop i) 1 i with
  | some e => e
  | none => -1

theorem wordEnd_l (N : Nat) (k : Int → Option (Int × Unit)) : ∀ (n : Nat) (w : List Int) (i need : Nat), w.length - i + 1 < n → i ≤ w.length → need + (w.length - i) ≤ 4611686018427387904 → w.length ≤ 4611686018427387904 →
    impl_wordEnd_l2 N k n w i need = match we (w.drop i) need i with | some e => k e | none => some (-1, ())
  | 0, _, _, _, h, _, _, _ => by omega
  | n + 1, w, i, need, h, hi, hn, hb => by
    simp only [impl_wordEnd_l2, impl_wordEnd_b2]
    cases need with
    | zero => rw [cdf (by omega), we_zero]
    | succ need =>
      rw [cdt (by omega)]
      by_cases hlt : i < w.length
      · rw [cdf (by omega), atI_lt w i hlt, Option.bind_some, Option.bind_some, Option.bind_some, wr (n := (i : Int) + 1) (by omega) (by omega), wr (n := ((need + 1 : Nat) : Int) - 1) (by omega) (by omega), wr (n := ((need + 1 : Nat) : Int) + 1) (by omega) (by omega)]
        have h1 := wordEnd_l N k n w (i + 1) need (by omega) (by omega) (by omega) hb
        have h2 := wordEnd_l N k n w (i + 1) (need + 2) (by omega) (by omega) (by omega) hb
        rw [show ((i : Int) + 1) = ((i + 1 : Nat) : Int) by omega, show (((need + 1 : Nat) : Int) - 1) = (need : Int) by omega, show (((need + 1 : Nat) : Int) + 1) = ((need + 2 : Nat) : Int) by omega, h1, h2]
        rw [List.drop_eq_getElem_cons hlt]
        simp only [we]
        by_cases c1 : w[i] < -2
        · rw [cdt c1, if_pos (.inl c1)]
        · rw [cdf c1]
          by_cases c2 : 5 ≤ w[i]
          · rw [cdt c2, if_pos (.inr c2)]
          · rw [cdf c2, if_neg (by omega)]
            by_cases c3 : 0 ≤ w[i]
            · rw [cdt c3, if_pos c3]
            · rw [cdf c3, if_neg c3]
      · rw [cdt (by omega), List.drop_eq_nil_of_le (by omega)]
        rfl

theorem wordEnd_eq (w : List Int) (i : Nat) (hi : i ≤ w.length) (hb : w.length ≤ 1000000000) : impl_wordEnd big w i = some (wEnd w i, ()) := by
  have hg := big_ge
  unfold impl_wordEnd impl_wordEnd_s impl_wordEnd_F2
  have := wordEnd_l big impl_wordEnd_a2 big w i 1 (by omega) hi (by omega) (by omega)
  rw [show (1 : Int) = ((1 : Nat) : Int) from rfl, this]
  unfold wEnd
  cases we (w.drop i) 1 i <;> rfl

theorem l1In_eq (x a b : Int) : spec_l1In x a b = some (decide (a ≤ x ∧ x ≤ b), ()) := by
  unfold spec_l1In spec_l1In_s
  by_cases h : a ≤ x <;> simp [h]

theorem l28End_l (N : Nat) : ∀ (n : Nat) (w : List Int) (i o : Nat), w.length - i < n → i ≤ w.length → o + 1 + (w.length - i) ≤ 4611686018427387904 → w.length ≤ 4611686018427387904 →
    spec_l28End_l3 N spec_l28End_a3 n w ((o + 1 : Nat) : Int) i = some (match we (w.drop i) (o + 1) i with | some e => e | none => -1, ())
  | 0, _, _, _, h, _, _, _ => by omega
  | n + 1, w, i, o, h, hi, hn, hb => by
    simp only [spec_l28End_l3, spec_l28End_b3]
    by_cases hlt : i < w.length
    · rw [cdt (by omega), atI_lt w i hlt]
      simp only [Option.bind_some, l1In_eq]
      rw [wr (n := (i : Int) + 1) (by omega) (by omega), wr (n := ((o + 1 : Nat) : Int) - 1) (by omega) (by omega), wr (n := ((o + 1 : Nat) : Int) + 1) (by omega) (by omega)]
      have h2 := l28End_l N n w (i + 1) (o + 1) (by omega) (by omega) (by omega) hb
      rw [show ((i : Int) + 1) = ((i + 1 : Nat) : Int) by omega, show (((o + 1 : Nat) : Int) + 1) = ((o + 1 + 1 : Nat) : Int) by omega, h2]
      rw [List.drop_eq_getElem_cons hlt]
      simp only [we]
      rw [cdf (show ¬ (((o + 1 + 1 : Nat) : Int) = 0) by omega)]
      by_cases c1 : w[i] = -1
      · rw [cdt c1, if_neg (by omega), if_neg (by omega)]
      · rw [cdf c1]
        by_cases c2 : w[i] = -2
        · rw [cdt c2, if_neg (by omega), if_neg (by omega)]
        · rw [cdf c2]
          by_cases c3 : 0 ≤ w[i] ∧ w[i] ≤ 4
          · rw [cdt c3, if_neg (by omega), if_pos c3.1]
            cases o with
            | zero => rw [cdt (by omega), we_zero]
            | succ o =>
              have h1 := l28End_l N n w (i + 1) o (by omega) (by omega) (by omega) hb
              rw [cdf (by omega), show (((o + 1 + 1 : Nat) : Int) - 1) = ((o + 1 : Nat) : Int) by omega, h1]
          · rw [cdf c3, if_pos (by omega)]
    · rw [cdf (by omega), List.drop_eq_nil_of_le (by omega)]
      rfl

theorem l28End_eq (w : List Int) (i : Nat) (hi : i ≤ w.length) (hb : w.length ≤ 1000000000) : spec_l28End big w i = some (wEnd w i, ()) := by
  have hg := big_ge
  unfold spec_l28End spec_l28End_s spec_l28End_F3
  have := l28End_l big big w i 0 (by omega) hi (by omega) (by omega)
  rw [show (1 : Int) = ((0 + 1 : Nat) : Int) from rfl, this]
  rfl

def isWord (w : List Int) : Bool := decide (w.length ≤ 40) && decide (wEnd w 0 = w.length)

theorem implIsWord_eq (w : List Int) : impl_IsWord w = some (isWord w, ()) := by
  unfold impl_IsWord impl_IsWord_s isWord
  by_cases h : w.length ≤ 40
  · rw [cdt (by omega), show (0 : Int) = ((0 : Nat) : Int) from rfl, wordEnd_eq w 0 (by omega) (by omega), Option.bind_some]
    simp [h]
  · rw [cdf (by omega)]
    simp [h]

theorem l28Good_eq (w : List Int) : spec_l28Good w = some (isWord w, ()) := by
  unfold spec_l28Good spec_l28Good_s isWord
  by_cases h : w.length ≤ 40
  · rw [cdt (by omega), show (0 : Int) = ((0 : Nat) : Int) from rfl, l28End_eq w 0 (by omega) (by omega), Option.bind_some]
    by_cases he : wEnd w 0 = w.length
    · rw [cdt he]
      have : 0 < w.length := by
        rcases Nat.eq_zero_or_pos w.length with h0 | h0
        · have : w = [] := List.eq_nil_of_length_eq_zero h0
          subst this
          simp [wEnd, we] at he
        · exact h0
      simp [h, he]; omega
    · rw [cdf he]; simp [h, he]
  · rw [cdf (by omega)]
    simp [h]

theorem specIsWord_eq (w : List Int) : spec_IsWord w = some (isWord w, ()) := by
  unfold spec_IsWord spec_IsWord_s
  rw [l28Good_eq, Option.bind_some]

theorem true_IsWord (w : List Int) (_ : Wf (.pair (.sl I) .unit) (w, ())) : laws_FnExactIsWord w = some (true, ()) := by
  unfold laws_FnExactIsWord laws_FnExactIsWord_s
  by_cases h : w.length ≤ 1048576
  · rw [cdf (by omega)]
    simp only [toIntS_eq w (by omega), Option.bind_some, specIsWord_eq, implIsWord_eq, eqIntS_eq w w (by omega)]
    simp
  · rw [cdt (by omega)]
end Go.Proofs.Ytpomjejencfiiaa
