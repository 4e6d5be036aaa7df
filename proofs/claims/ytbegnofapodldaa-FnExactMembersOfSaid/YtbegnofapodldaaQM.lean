import Derived.Test.YtbegnofapodldaaPLib
import Derived.Test.YtbegnofapodldaaGM
import Derived.KernelRfl
set_option linter.unusedVariables false
set_option linter.unusedSimpArgs false
namespace Go.Proofs.Ytbegnofapodldaa
open Go Go.Gx Go.Proofs

theorem toIntS_l (N : Nat) (k : List Int → Option (List Int × Unit)) : ∀ (n : Nat) (a out : List Int) (i : Nat), a.length - i < n → i ≤ a.length → out.length = a.length → a.length ≤ 1099511627776 →
    laws_toIntS_l3 N k n a out i = k (out.take i ++ a.drop i)
  | 0, _, _, _, h, _, _, _ => by omega
  | n + 1, a, out, i, h, hi, ho, hb => by
    simp only [laws_toIntS_l3, laws_toIntS_b3]
    by_cases hlt : i < a.length
    · rw [cdt (by omega), atI_lt a i hlt, Option.bind_some, atI_lt out i (by omega), Option.bind_some, Int.toNat_natCast, List.getElem?_eq_getElem (by omega), Option.bind_some, wr (by omega) (by omega)]
      have := toIntS_l N k n a (out.set i a[i]) (i + 1) (by omega) (by omega) (by simpa using ho) hb
      rw [show ((i : Int) + 1) = ((i + 1 : Nat) : Int) by omega, this]
      congr 1
      rw [List.take_succ_eq_append_getElem (by simp; omega), List.take_set, List.set_eq_of_length_le (by simp [Nat.min_le_left]), List.append_assoc]
      congr 1
      rw [List.getElem_set_self, List.singleton_append, ← List.drop_eq_getElem_cons hlt]
    · rw [cdf (by omega)]
      have : i = a.length := by omega
      subst this
      rw [List.drop_length, List.append_nil, List.take_of_length_le (by omega)]

theorem toIntS_eq (a : List Int) (h : a.length ≤ 4294967296) : laws_toIntS big a = some (a, ()) := by
  have hb := big_ge
  unfold laws_toIntS laws_toIntS_s
  rw [mkI_nat _ _ h, Option.bind_some, Option.bind_some, cdt (by omega)]
  unfold laws_toIntS_F3
  have := toIntS_l big laws_toIntS_a3 big a (List.replicate a.length 0) 0 (by omega) (by omega) (by simp) (by omega)
  refine Eq.trans this ?_
  simp [laws_toIntS_a3]

theorem eqIntS_l (N : Nat) (k : Option (Bool × Unit)) : ∀ (n : Nat) (a b : List Int) (i : Nat), a.length - i < n → i ≤ a.length → b.length = a.length → a.length ≤ 1099511627776 →
    laws_eqIntS_l4 N k n a b i = if a.drop i = b.drop i then k else some (false, ())
  | 0, _, _, _, h, _, _, _ => by omega
  | n + 1, a, b, i, h, hi, hl, hb => by
    simp only [laws_eqIntS_l4, laws_eqIntS_b4]
    by_cases hlt : i < a.length
    · rw [cdt (by omega), atI_lt a i hlt, Option.bind_some, atI_lt b i (by omega), Option.bind_some, wr (by omega) (by omega)]
      have := eqIntS_l N k n a b (i + 1) (by omega) (by omega) hl hb
      rw [show ((i : Int) + 1) = ((i + 1 : Nat) : Int) by omega, this]
      rw [List.drop_eq_getElem_cons hlt, List.drop_eq_getElem_cons (show i < b.length by omega)]
      by_cases hx : a[i] = b[i]
      · rw [cdf (by simpa using hx), hx]; simp only [List.cons.injEq, true_and]
      · rw [cdt hx, if_neg (fun e => hx (by simp only [List.cons.injEq] at e; exact e.1))]
    · rw [cdf (by omega), List.drop_eq_nil_of_le (by omega), List.drop_eq_nil_of_le (by omega)]
      simp

theorem eqIntS_eq (a b : List Int) (h : a.length ≤ 1099511627775) : laws_eqIntS big a b = some (decide (a = b), ()) := by
  have hb := big_ge
  unfold laws_eqIntS laws_eqIntS_s
  by_cases hl : a.length = b.length
  · rw [cdf (by simp [hl])]
    unfold laws_eqIntS_F4
    have := eqIntS_l big laws_eqIntS_a4 big a b 0 (by omega) (by omega) (by omega) (by omega)
    rw [show (0 : Int) = ((0 : Nat) : Int) from rfl, this]
    simp only [List.drop_zero, laws_eqIntS_a4]
    by_cases he : a = b <;> simp [he]
  · rw [cdt (by omega)]
    have : a ≠ b := by rintro rfl; exact hl rfl
    simp [this]

def we : List Int → Nat → Nat → Option Nat
  | _, 0, c => some c
  | [], _ + 1, _ => none
  | x :: xs, n + 1, c => if x < -2 ∨ 5 ≤ x then none else if 0 ≤ x then we xs n (c + 1) else we xs (n + 2) (c + 1)

theorem we_zero (xs : List Int) (c : Nat) : we xs 0 c = some c := by cases xs <;> rfl

def wEnd (w : List Int) (i : Nat) : Int := match we (w.drop i) 1 i with
  | some e => e
  | none => -1

theorem wordEnd_l (N : Nat) (k : Int → Option (Int × Unit)) : ∀ (n : Nat) (w : List Int) (i need : Nat), w.length - i + 1 < n → i ≤ w.length → need + (w.length - i) ≤ 4611686018427387904 → w.length ≤ 4611686018427387904 →
    impl_wordEnd_l2 N k n w i need = match we (w.drop i) need i with | some e => k e | none => some (-1, ())
  | 0, _, _, _, h, _, _, _ => by omega
  | n + 1, w, i, need, h, hi, hn, hb => by
    simp only [impl_wordEnd_l2, impl_wordEnd_b2]
    cases need with
    | zero => rw [cdf (by omega), we_zero]
    | succ need =>
      rw [cdt (by omega)]
      by_cases hlt : i < w.length
      · rw [cdf (by omega), atI_lt w i hlt, Option.bind_some, Option.bind_some, Option.bind_some, wr (n := (i : Int) + 1) (by omega) (by omega), wr (n := ((need + 1 : Nat) : Int) - 1) (by omega) (by omega), wr (n := ((need + 1 : Nat) : Int) + 1) (by omega) (by omega)]
        have h1 := wordEnd_l N k n w (i + 1) need (by omega) (by omega) (by omega) hb
        have h2 := wordEnd_l N k n w (i + 1) (need + 2) (by omega) (by omega) (by omega) hb
        rw [show ((i : Int) + 1) = ((i + 1 : Nat) : Int) by omega, show (((need + 1 : Nat) : Int) - 1) = (need : Int) by omega, show (((need + 1 : Nat) : Int) + 1) = ((need + 2 : Nat) : Int) by omega, h1, h2]
        rw [List.drop_eq_getElem_cons hlt]
        simp only [we]
        by_cases c1 : w[i] < -2
        · rw [cdt c1, if_pos (.inl c1)]
        · rw [cdf c1]
          by_cases c2 : 5 ≤ w[i]
          · rw [cdt c2, if_pos (.inr c2)]
          · rw [cdf c2, if_neg (by omega)]
            by_cases c3 : 0 ≤ w[i]
            · rw [cdt c3, if_pos c3]
            · rw [cdf c3, if_neg c3]
      · rw [cdt (by omega), List.drop_eq_nil_of_le (by omega)]
        rfl

theorem wordEnd_eq (w : List Int) (i : Nat) (hi : i ≤ w.length) (hb : w.length ≤ 1000000000) : impl_wordEnd big w i = some (wEnd w i, ()) := by
  have hg := big_ge
  unfold impl_wordEnd impl_wordEnd_s impl_wordEnd_F2
  have := wordEnd_l big impl_wordEnd_a2 big w i 1 (by omega) hi (by omega) (by omega)
  rw [show (1 : Int) = ((1 : Nat) : Int) from rfl, this]
  unfold wEnd
  cases we (w.drop i) 1 i <;> rfl

theorem l1In_eq (x a b : Int) : spec_l1In x a b = some (decide (a ≤ x ∧ x ≤ b), ()) := by
  unfold spec_l1In spec_l1In_s
  by_cases h : a ≤ x <;> simp [h]

theorem l28End_l (N : Nat) : ∀ (n : Nat) (w : List Int) (i o : Nat), w.length - i < n → i ≤ w.length → o + 1 + (w.length - i) ≤ 4611686018427387904 → w.length ≤ 4611686018427387904 →
    spec_l28End_l3 N spec_l28End_a3 n w ((o + 1 : Nat) : Int) i = some (match we (w.drop i) (o + 1) i with | some e => e | none => -1, ())
  | 0, _, _, _, h, _, _, _ => by omega
  | n + 1, w, i, o, h, hi, hn, hb => by
    simp only [spec_l28End_l3, spec_l28End_b3]
    by_cases hlt : i < w.length
    · rw [cdt (by omega), atI_lt w i hlt]
      simp only [Option.bind_some, l1In_eq]
      rw [wr (n := (i : Int) + 1) (by omega) (by omega), wr (n := ((o + 1 : Nat) : Int) - 1) (by omega) (by omega), wr (n := ((o + 1 : Nat) : Int) + 1) (by omega) (by omega)]
      have h2 := l28End_l N n w (i + 1) (o + 1) (by omega) (by omega) (by omega) hb
      rw [show ((i : Int) + 1) = ((i + 1 : Nat) : Int) by omega, show (((o + 1 : Nat) : Int) + 1) = ((o + 1 + 1 : Nat) : Int) by omega, h2]
      rw [List.drop_eq_getElem_cons hlt]
      simp only [we]
      rw [cdf (show ¬ (((o + 1 + 1 : Nat) : Int) = 0) by omega)]
      by_cases c1 : w[i] = -1
      · rw [cdt c1, if_neg (by omega), if_neg (by omega)]
      · rw [cdf c1]
        by_cases c2 : w[i] = -2
        · rw [cdt c2, if_neg (by omega), if_neg (by omega)]
        · rw [cdf c2]
          by_cases c3 : 0 ≤ w[i] ∧ w[i] ≤ 4
          · rw [cdt c3, if_neg (by omega), if_pos c3.1]
            cases o with
            | zero => rw [cdt (by omega), we_zero]
            | succ o =>
              have h1 := l28End_l N n w (i + 1) o (by omega) (by omega) (by omega) hb
              rw [cdf (by omega), show (((o + 1 + 1 : Nat) : Int) - 1) = ((o + 1 : Nat) : Int) by omega, h1]
          · rw [cdf c3, if_pos (by omega)]
    · rw [cdf (by omega), List.drop_eq_nil_of_le (by omega)]
      rfl

theorem l28End_eq (w : List Int) (i : Nat) (hi : i ≤ w.length) (hb : w.length ≤ 1000000000) : spec_l28End big w i = some (wEnd w i, ()) := by
  have hg := big_ge
  unfold spec_l28End spec_l28End_s spec_l28End_F3
  have := l28End_l big big w i 0 (by omega) hi (by omega) (by omega)
  rw [show (1 : Int) = ((0 + 1 : Nat) : Int) from rfl, this]
  rfl

def isWord (w : List Int) : Bool := decide (w.length ≤ 40) && decide (wEnd w 0 = w.length)

theorem implIsWord_eq (w : List Int) : impl_IsWord w = some (isWord w, ()) := by
  unfold impl_IsWord impl_IsWord_s isWord
  by_cases h : w.length ≤ 40
  · rw [cdt (by omega), show (0 : Int) = ((0 : Nat) : Int) from rfl, wordEnd_eq w 0 (by omega) (by omega), Option.bind_some]
    simp [h]
  · rw [cdf (by omega)]
    simp [h]

theorem l28Good_eq (w : List Int) : spec_l28Good w = some (isWord w, ()) := by
  unfold spec_l28Good spec_l28Good_s isWord
  by_cases h : w.length ≤ 40
  · rw [cdt (by omega), show (0 : Int) = ((0 : Nat) : Int) from rfl, l28End_eq w 0 (by omega) (by omega), Option.bind_some]
    by_cases he : wEnd w 0 = w.length
    · rw [cdt he]
      have : 0 < w.length := by
        rcases Nat.eq_zero_or_pos w.length with h0 | h0
        · have : w = [] := List.eq_nil_of_length_eq_zero h0
          subst this
          simp [wEnd, we] at he
        · exact h0
      simp [h, he]; omega
    · rw [cdf he]; simp [h, he]
  · rw [cdf (by omega)]
    simp [h]

def marks : Int → Nat → List Int
  | _, 0 => []
  | k, n + 1 => k :: marks (k + 1) n

theorem marks_len : ∀ (k : Int) (n : Nat), (marks k n).length = n
  | _, 0 => rfl
  | k, n + 1 => by simp [marks, marks_len (k + 1) n]

theorem markIntS_l (N : Nat) (kk : List Int → Int → Option (Int × (List Int × Unit))) : ∀ (n : Nat) (a : List Int) (k : Int) (i : Nat), a.length - i < n → i ≤ a.length → a.length ≤ 1099511627776 → 0 ≤ k → k ≤ 1125899906842624 →
    k + (a.length - i : Nat) ≤ 1125899906842624 → laws_markIntS_l2 N kk n a k i = kk (a.take i ++ marks k (a.length - i)) (k + (a.length - i : Nat))
  | 0, _, _, _, h, _, _, _, _, _ => by omega
  | n + 1, a, k, i, h, hi, hb, hk0, hk, hk2 => by
    simp only [laws_markIntS_l2, laws_markIntS_b2]
    by_cases hlt : i < a.length
    · rw [cdt (by omega), atI_lt a i hlt, Option.bind_some, Int.toNat_natCast, List.getElem?_eq_getElem hlt, Option.bind_some, wr (by omega) (by omega), wr (by omega) (by omega)]
      have := markIntS_l N kk n (a.set i k) (k + 1) (i + 1) (by simp; omega) (by simp; omega) (by simpa using hb) (by omega) (by omega) (by simp; omega)
      rw [show ((i : Int) + 1) = ((i + 1 : Nat) : Int) by omega, this]
      rw [List.length_set, List.take_succ_eq_append_getElem (by simp; omega), List.take_set, List.set_eq_of_length_le (by simp [Nat.min_le_left]), List.append_assoc, List.getElem_set_self]
      have e : a.length - i = (a.length - (i + 1)) + 1 := by omega
      rw [e, marks]
      congr 1
      omega
    · rw [cdf (by omega)]
      have : i = a.length := by omega
      subst this
      simp [marks]

theorem markIntS_eq (a : List Int) (k : Int) (h : a.length ≤ 1099511627775) (hk : 0 ≤ k) (hk2 : k ≤ 1099511627776) : laws_markIntS big a k = some (k + a.length, (marks k a.length, ())) := by
  have hb := big_ge
  unfold laws_markIntS laws_markIntS_s laws_markIntS_F2
  have := markIntS_l big laws_markIntS_a2 big a k 0 (by omega) (by omega) (by omega) hk (by omega) (by omega)
  refine Eq.trans this ?_
  simp [laws_markIntS_a2]

theorem heldIntS_l (N : Nat) (kk : Int → Option (Int × Unit)) : ∀ (n : Nat) (a b : List Int) (k : Int) (d : Nat), d < n → a = b ++ marks k d → a.length ≤ 1099511627776 → 0 ≤ k → k + d ≤ 1125899906842624 →
    laws_heldIntS_l2 N kk n a k b.length = kk (k + d)
  | 0, _, _, _, _, h, _, _, _, _ => by omega
  | n + 1, a, b, k, d, h, ha, hb, hk0, hk => by
    simp only [laws_heldIntS_l2, laws_heldIntS_b2]
    have hlen : a.length = b.length + d := by rw [ha]; simp [marks_len]
    cases d with
    | zero => rw [cdf (by omega)]; simp
    | succ d =>
      have hlt : b.length < a.length := by omega
      have hx : a[b.length] = k := by
        have : a[b.length]? = some k := by rw [ha]; simp [marks]
        rw [List.getElem?_eq_getElem hlt] at this
        simpa using this
      rw [cdt (by omega), atI_lt a b.length hlt, Option.bind_some, hx, cdf (by simp), wr (by omega) (by omega), wr (by omega) (by omega)]
      have := heldIntS_l N kk n a (b ++ [k]) (k + 1) d (by omega) (by rw [ha, marks, List.append_assoc]; rfl) hb (by omega) (by omega)
      rw [List.length_append, List.length_singleton] at this
      rw [show ((b.length : Int) + 1) = ((b.length + 1 : Nat) : Int) by omega, this]
      congr 1
      omega

theorem heldIntS_eq (k : Int) (d : Nat) (h : d ≤ 1099511627775) (hk : 0 ≤ k) (hk2 : k ≤ 1099511627776) : laws_heldIntS big (marks k d) k = some (k + d, ()) := by
  have hb := big_ge
  unfold laws_heldIntS laws_heldIntS_s laws_heldIntS_F2
  exact heldIntS_l big laws_heldIntS_a2 big (marks k d) [] k d (by omega) rfl (by rw [marks_len]; omega) hk (by omega)

theorem we_append : ∀ (s t : List Int) (n m c : Nat), we s n c = some (c + s.length) → we (s ++ t) (n + m) c = we t m (c + s.length)
  | [], t, n, m, c, h => by
    cases n with
    | zero => simp
    | succ n => simp [we] at h
  | x :: xs, t, 0, m, c, h => by simp [we] at h
  | x :: xs, t, n + 1, m, c, h => by
    simp only [we] at h
    split at h
    · cases h
    rename_i hx
    rw [show n + 1 + m = (n + m) + 1 by omega]
    simp only [List.cons_append, we]
    rw [if_neg hx]
    simp only [List.length_cons] at h ⊢
    split at h
    · rename_i h0
      rw [if_pos h0, we_append xs t n m (c + 1) (by rw [h]; congr 1; omega)]
      congr 1; omega
    · rename_i h0
      rw [if_neg h0, show n + m + 2 = (n + 2) + m by omega, we_append xs t (n + 2) m (c + 1) (by rw [h]; congr 1; omega)]
      congr 1; omega

theorem we_shift : ∀ (s : List Int) (n c d : Nat), we s n (c + d) = (we s n c).map (· + d)
  | s, 0, c, d => by simp [we_zero]
  | [], n + 1, c, d => by simp [we]
  | x :: xs, n + 1, c, d => by
    simp only [we]
    rw [show c + d + 1 = (c + 1) + d by omega, we_shift xs n (c + 1) d, we_shift xs (n + 2) (c + 1) d]
    split
    · rfl
    · split <;> rfl

theorem we_mem : ∀ (s : List Int) (n c : Nat), we s n c = some (c + s.length) → ∀ x ∈ s, -2 ≤ x ∧ x < 5
  | [], _, _, _, x, hx => by cases hx
  | y :: ys, 0, c, h, _, _ => by simp [we] at h
  | y :: ys, n + 1, c, h, x, hx => by
    simp only [we] at h
    split at h
    · cases h
    rename_i hy
    simp only [List.length_cons] at h
    rcases List.mem_cons.1 hx with rfl | hx
    · omega
    · split at h
      · exact we_mem ys n (c + 1) (by rw [h]; congr 1; omega) x hx
      · exact we_mem ys (n + 2) (c + 1) (by rw [h]; congr 1; omega) x hx

theorem isWord_iff (w : List Int) : isWord w = true ↔ w.length ≤ 40 ∧ we w 1 0 = some w.length := by
  unfold isWord wEnd
  simp only [List.drop_zero, Bool.and_eq_true, decide_eq_true_eq]
  refine and_congr Iff.rfl ?_
  cases h : we w 1 0 with
  | none => simp
  | some e => simp; omega

theorem isWord_len {w : List Int} (h : isWord w = true) : w.length ≤ 40 := ((isWord_iff w).1 h).1

theorem clone_eq (w : List Int) (h : w.length ≤ 4294967296) : impl_clone w = some (w, ()) := by
  unfold impl_clone impl_clone_s
  rw [appI_ok (by simp; omega), Option.bind_some]
  simp

theorem isWord_mem {w : List Int} (h : isWord w = true) : ∀ x ∈ w, -2 ≤ x ∧ x < 5 := by
  rw [isWord_iff] at h
  exact we_mem w 1 0 (by rw [h.2]; simp)

theorem eqIntSS_l (N : Nat) (k : Option (Bool × Unit)) : ∀ (n : Nat) (a b : List (List Int)) (i : Nat), a.length - i < n → i ≤ a.length → b.length = a.length → a.length ≤ 1099511627776 → (∀ x ∈ a, x.length ≤ 4294967296) →
    laws_eqIntSS_l4 N k n a b i = if a.drop i = b.drop i then k else some (false, ())
  | 0, _, _, _, h, _, _, _, _ => by omega
  | n + 1, a, b, i, h, hi, hl, hb, hx => by
    simp only [laws_eqIntSS_l4, laws_eqIntSS_b4]
    by_cases hlt : i < a.length
    · have hxx := hx _ (List.getElem_mem hlt)
      rw [cdt (by omega), atI_lt a i hlt, Option.bind_some, atI_lt b i (by omega), Option.bind_some, eqIntS_eq _ _ (by omega), Option.bind_some, wr (by omega) (by omega)]
      have := eqIntSS_l N k n a b (i + 1) (by omega) (by omega) hl hb hx
      rw [show ((i : Int) + 1) = ((i + 1 : Nat) : Int) by omega, this]
      rw [List.drop_eq_getElem_cons hlt, List.drop_eq_getElem_cons (show i < b.length by omega)]
      by_cases hx : a[i] = b[i]
      · rw [hx]; simp only [decide_true, Bool.not_true, cond_false, List.cons.injEq, true_and]
      · rw [decide_eq_false hx]; exact (if_neg (fun e => hx (List.cons.inj e).1)).symm
    · rw [cdf (by omega), List.drop_eq_nil_of_le (by omega), List.drop_eq_nil_of_le (by omega)]
      simp

theorem eqIntSS_eq (a b : List (List Int)) (h : a.length ≤ 1099511627775) (hx : ∀ x ∈ a, x.length ≤ 4294967296) : laws_eqIntSS big a b = some (decide (a = b), ()) := by
  have hb := big_ge
  unfold laws_eqIntSS laws_eqIntSS_s
  by_cases hl : a.length = b.length
  · rw [cdf (by simp [hl])]
    unfold laws_eqIntSS_F4
    have := eqIntSS_l big laws_eqIntSS_a4 big a b 0 (by omega) (by omega) (by omega) (by omega) hx
    refine Eq.trans this ?_
    simp only [List.drop_zero, laws_eqIntSS_a4]
    by_cases he : a = b <;> simp [he]
  · rw [cdt (by omega)]
    have : a ≠ b := by rintro rfl; exact hl rfl
    simp [this]

theorem len_le_sum {α : Type} : ∀ {l : List (List α)} {x : List α}, x ∈ l → x.length ≤ (l.map List.length).sum
  | y :: l, x, h => by
    rw [List.map_cons, List.sum_cons]
    rcases List.mem_cons.1 h with rfl | h
    · omega
    · have := len_le_sum h; omega

def marksS : Int → List Nat → List (List Int)
  | _, [] => []
  | k, n :: ns => marks k n :: marksS (k + n) ns

theorem marksS_len : ∀ (k : Int) (ns : List Nat), (marksS k ns).length = ns.length
  | _, [] => rfl
  | k, n :: ns => by simp [marksS, marksS_len _ ns]

theorem markIntSS_l (N : Nat) (kk : List (List Int) → Int → Option (Int × (List (List Int) × Unit))) : ∀ (n : Nat) (a : List (List Int)) (k : Int) (i : Nat), a.length - i < n → i ≤ a.length → a.length ≤ 1099511627776 → 0 ≤ k → k + ((a.drop i).map List.length).sum ≤ 1099511627775 →
    laws_markIntSS_l2 N kk n a k i = kk (a.take i ++ marksS k ((a.drop i).map List.length)) (k + ((a.drop i).map List.length).sum)
  | 0, _, _, _, h, _, _, _, _ => by omega
  | n + 1, a, k, i, h, hi, hb, hk0, hk => by
    simp only [laws_markIntSS_l2, laws_markIntSS_b2]
    by_cases hlt : i < a.length
    · rw [List.drop_eq_getElem_cons hlt, List.map_cons, List.sum_cons] at hk
      rw [cdt (by omega), atI_lt a i hlt, Option.bind_some, Int.toNat_natCast, List.getElem?_eq_getElem hlt, Option.bind_some, Option.bind_some, markIntS_eq _ k (by omega) (by omega) (by omega), Option.bind_some, Option.bind_some, Option.bind_some, wr (n := (i : Int) + 1) (by omega) (by omega)]
      have e1 : (a.set i (marks k a[i].length)).drop (i + 1) = a.drop (i + 1) := by rw [List.drop_set, if_pos (by omega)]
      have := markIntSS_l N kk n (a.set i (marks k a[i].length)) (k + a[i].length) (i + 1) (by simp; omega) (by simp; omega) (by simpa using hb) (by omega) (by rw [e1]; omega)
      rw [show ((i : Int) + 1) = ((i + 1 : Nat) : Int) by omega, this, e1]
      rw [List.take_succ_eq_append_getElem (by simp; omega), List.take_set, List.set_eq_of_length_le (by simp [Nat.min_le_left]), List.append_assoc, List.getElem_set_self]
      rw [List.drop_eq_getElem_cons hlt, List.map_cons, List.sum_cons, marksS]
      congr 1
      omega
    · rw [cdf (by omega)]
      have : i = a.length := by omega
      subst this
      simp [marksS]

theorem markIntSS_eq (a : List (List Int)) (k : Int) (h : a.length ≤ 1099511627775) (hk : 0 ≤ k) (hk2 : k + (a.map List.length).sum ≤ 1099511627775) : laws_markIntSS big a k = some (k + (a.map List.length).sum, (marksS k (a.map List.length), ())) := by
  have hb := big_ge
  unfold laws_markIntSS laws_markIntSS_s laws_markIntSS_F2
  have := markIntSS_l big laws_markIntSS_a2 big a k 0 (by omega) (by omega) (by omega) hk (by simpa using hk2)
  refine Eq.trans this ?_
  simp [laws_markIntSS_a2]

theorem heldIntSS_l (N : Nat) (kk : Int → Option (Int × Unit)) : ∀ (n : Nat) (a b : List (List Int)) (k : Int) (ns : List Nat), ns.length < n → a = b ++ marksS k ns → a.length ≤ 1099511627776 → 0 ≤ k → k + ns.sum ≤ 1099511627775 →
    laws_heldIntSS_l2 N kk n a k b.length = kk (k + ns.sum)
  | 0, _, _, _, _, h, _, _, _, _ => by omega
  | n + 1, a, b, k, ns, h, ha, hb, hk0, hk => by
    simp only [laws_heldIntSS_l2, laws_heldIntSS_b2]
    have hlen : a.length = b.length + ns.length := by rw [ha]; simp [marksS_len]
    cases ns with
    | nil => rw [cdf (by simp at hlen; omega)]; simp
    | cons m ns =>
      simp only [List.length_cons] at hlen h
      simp only [List.sum_cons] at hk
      have hlt : b.length < a.length := by omega
      have hx : a[b.length] = marks k m := by
        have : a[b.length]? = some (marks k m) := by rw [ha]; simp [marksS]
        rw [List.getElem?_eq_getElem hlt] at this
        simpa using this
      rw [cdt (by omega), atI_lt a b.length hlt, Option.bind_some, hx, heldIntS_eq k m (by omega) hk0 (by omega), Option.bind_some, cdf (by omega), wr (by omega) (by omega)]
      have := heldIntSS_l N kk n a (b ++ [marks k m]) (k + m) ns (by omega) (by rw [ha, marksS, List.append_assoc]; rfl) hb (by omega) (by omega)
      rw [List.length_append, List.length_singleton] at this
      rw [show ((b.length : Int) + 1) = ((b.length + 1 : Nat) : Int) by omega, this, List.sum_cons]
      congr 1
      omega

theorem heldIntSS_eq (k : Int) (ns : List Nat) (h : ns.length ≤ 1099511627775) (hk : 0 ≤ k) (hk2 : k + ns.sum ≤ 1099511627775) : laws_heldIntSS big (marksS k ns) k = some (k + ns.sum, ()) := by
  have hb := big_ge
  unfold laws_heldIntSS laws_heldIntSS_s laws_heldIntSS_F2
  exact heldIntSS_l big laws_heldIntSS_a2 big (marksS k ns) [] k ns (by omega) rfl (by rw [marksS_len]; omega) hk hk2

theorem we_split : ∀ (xs : List Int) (n m c E : Nat), we xs (n + m) c = some E → ∃ e, we xs n c = some e ∧ c ≤ e ∧ e - c ≤ xs.length ∧ we (xs.drop (e - c)) m e = some E
  | xs, 0, m, c, E, h => ⟨c, we_zero xs c, by omega, by omega, by simpa using h⟩
  | [], n + 1, m, c, E, h => by
    rw [show n + 1 + m = (n + m) + 1 by omega] at h
    simp [we] at h
  | x :: xs, n + 1, m, c, E, h => by
    rw [show n + 1 + m = (n + m) + 1 by omega] at h
    simp only [we] at h ⊢
    split at h
    · cases h
    rename_i hx
    rw [if_neg hx]
    split at h
    · rename_i h0
      obtain ⟨e, h1, h2, h3, h4⟩ := we_split xs n m (c + 1) E h
      rw [if_pos h0]
      refine ⟨e, h1, by omega, by simp; omega, ?_⟩
      rw [show e - c = (e - (c + 1)) + 1 by omega, List.drop_succ_cons]
      exact h4
    · rename_i h0
      rw [show n + m + 2 = (n + 2) + m by omega] at h
      obtain ⟨e, h1, h2, h3, h4⟩ := we_split xs (n + 2) m (c + 1) E h
      rw [if_neg h0]
      refine ⟨e, h1, by omega, by simp; omega, ?_⟩
      rw [show e - c = (e - (c + 1)) + 1 by omega, List.drop_succ_cons]
      exact h4

theorem we_le : ∀ (xs : List Int) (n c e : Nat), we xs n c = some e → c ≤ e
  | xs, 0, c, e, h => by rw [we_zero] at h; cases h; omega
  | [], n + 1, c, e, h => by simp [we] at h
  | x :: xs, n + 1, c, e, h => by
    simp only [we] at h
    split at h
    · cases h
    split at h
    · have := we_le xs n (c + 1) e h; omega
    · have := we_le xs (n + 2) (c + 1) e h; omega

theorem we_take : ∀ (xs : List Int) (n c e : Nat), we xs n c = some e → we (xs.take (e - c)) n c = some e
  | xs, 0, c, e, h => by rw [we_zero] at h ⊢; exact h
  | [], n + 1, c, e, h => by simp [we] at h
  | x :: xs, n + 1, c, e, h => by
    simp only [we] at h
    split at h
    · cases h
    rename_i hx
    split at h
    · rename_i h0
      have h1 := we_le xs n (c + 1) e h
      rw [show e - c = (e - (c + 1)) + 1 by omega, List.take_succ_cons]
      simp only [we]
      rw [if_neg hx, if_pos h0]
      exact we_take xs n (c + 1) e h
    · rename_i h0
      have h1 := we_le xs (n + 2) (c + 1) e h
      rw [show e - c = (e - (c + 1)) + 1 by omega, List.take_succ_cons]
      simp only [we]
      rw [if_neg hx, if_neg h0]
      exact we_take xs (n + 2) (c + 1) e h

theorem we_back {s : List Int} {c : Nat} (h : we s 1 c = some (c + s.length)) : we s 1 0 = some s.length := by
  have := we_shift s 1 0 c
  rw [Nat.zero_add, h] at this
  cases hw : we s 1 0 with
  | none => rw [hw] at this; cases this
  | some e =>
    rw [hw] at this
    simp only [Option.map_some, Option.some.injEq] at this
    congr 1
    omega

theorem l1Own_eq (w : List Int) (h : w.length ≤ 4294967296) : spec_l1Own w = some (w, ()) := by
  unfold spec_l1Own spec_l1Own_s
  rw [appI_ok (by simp; omega), Option.bind_some]
  rfl

theorem parts_eq {x : Int} {xs : List Int} {e : Nat} (hb : xs.length ≤ 1000000) (h : we xs 1 1 = some e) (h2 : e - 1 ≤ xs.length) :
    spec_l28Parts (x :: xs) = some ((xs.take (e - 1), xs.drop (e - 1), ()), ()) ∧ impl_partsOf (x :: xs) = some ((xs.take (e - 1), xs.drop (e - 1), ()), ()) := by
  have he := we_le _ _ _ _ h
  have hw : wEnd (x :: xs) 1 = (e : Int) := by
    unfold wEnd
    simp only [List.drop_succ_cons, List.drop_zero, h]
  have s1 : slI (x :: xs) ((1 : Nat) : Int) (e : Int) = some (xs.take (e - 1)) := by
    have := slI_nat (x :: xs) 1 e (by omega) (by simp; omega)
    rw [this]
    simp
  have s2 : slI (x :: xs) (e : Int) ((x :: xs).length : Int) = some (xs.drop (e - 1)) := by
    have := slI_nat (x :: xs) e (x :: xs).length (by simp; omega) (by simp)
    rw [this]
    rw [List.take_of_length_le (by simp)]
    rw [show e = (e - 1) + 1 by omega, List.drop_succ_cons]
    simp
  constructor
  · unfold spec_l28Parts spec_l28Parts_s
    rw [show (1 : Int) = ((1 : Nat) : Int) from rfl, l28End_eq _ 1 (by simp) (by simp; omega), Option.bind_some, hw]
    rw [s1, Option.bind_some, s2, Option.bind_some]
  · unfold impl_partsOf impl_partsOf_s
    rw [show (1 : Int) = ((1 : Nat) : Int) from rfl, wordEnd_eq _ 1 (by simp) (by simp; omega), Option.bind_some, hw]
    rw [s1, Option.bind_some, s2, Option.bind_some]

theorem members_ok {sign : Int} (hs : sign < 0) : ∀ (n : Nat) (w : List Int), w.length ≤ n → n ≤ 1000 → we w 1 0 = some w.length →
    ∃ ms, (∀ d, n < d → R_spec_l28Members d (w, sign, ()) = some (ms, ()) ∧ R_impl_membersOf d (w, sign, ()) = some (ms, ())) ∧ ms.length ≤ w.length ∧ (ms.map List.length).sum ≤ w.length
  | n, [], _, _, h => by simp [we] at h
  | 0, x :: xs, h, _, _ => by simp at h
  | n + 1, x :: xs, hl, hn, h => by
    simp only [List.length_cons] at hl h
    by_cases hx : x = sign
    · subst hx
      simp only [we] at h
      split at h
      · cases h
      rw [if_neg (by omega)] at h
      obtain ⟨e, h1, h2, h3, h4⟩ := we_split xs 1 1 1 _ h
      obtain ⟨p1, p2⟩ := parts_eq (x := x) (by omega) h1 h3
      have ht := we_take xs 1 1 e h1
      have l1 : (xs.take (e - 1)).length = e - 1 := by simp; omega
      have l2 : (xs.drop (e - 1)).length = xs.length - (e - 1) := by simp
      have w1 : we (xs.take (e - 1)) 1 0 = some (xs.take (e - 1)).length := we_back (c := 1) (by rw [ht, l1]; congr 1; omega)
      have w2 : we (xs.drop (e - 1)) 1 0 = some (xs.drop (e - 1)).length := we_back (c := e) (by rw [h4, l2]; congr 1; omega)
      obtain ⟨ma, a1, a2, a3⟩ := members_ok hs n (xs.take (e - 1)) (by omega) (by omega) w1
      obtain ⟨mb, b1, b2, b3⟩ := members_ok hs n (xs.drop (e - 1)) (by omega) (by omega) w2
      refine ⟨ma ++ mb, fun d hd => ?_, by simp; omega, by simp; omega⟩
      cases d with
      | zero => omega
      | succ d =>
        have ha := a1 d (by omega)
        have hb := b1 d (by omega)
        constructor
        · simp only [R_spec_l28Members, spec_l28Members, spec_l28Members_s]
          rw [show atI (x :: xs) (0 : Int) = some x from rfl, Option.bind_some, cdf (by simp), p1, Option.bind_some, ha.1, Option.bind_some, hb.1, Option.bind_some, appI_ok (by simp only; omega), Option.bind_some]
        · simp only [R_impl_membersOf, impl_membersOf, impl_membersOf_s]
          rw [show atI (x :: xs) (0 : Int) = some x from rfl, Option.bind_some, cdf (by simp), p2, Option.bind_some, ha.2, Option.bind_some, hb.2, Option.bind_some, appI_ok (by simp only; omega), Option.bind_some]
    · refine ⟨[x :: xs], fun d hd => ?_, by simp, by simp⟩
      cases d with
      | zero => omega
      | succ d =>
        constructor
        · simp only [R_spec_l28Members, spec_l28Members, spec_l28Members_s]
          rw [show atI (x :: xs) (0 : Int) = some x from rfl, Option.bind_some, cdt hx, l1Own_eq _ (by simp; omega), Option.bind_some]
        · simp only [R_impl_membersOf, impl_membersOf, impl_membersOf_s]
          rw [show atI (x :: xs) (0 : Int) = some x from rfl, Option.bind_some, cdt hx, clone_eq _ (by simp; omega), Option.bind_some]

theorem members_eq (w : List Int) : ∃ v : List (List Int) × Bool × Unit, spec_MembersOf w = some (v, ()) ∧ impl_MembersOf w = some (v, ()) ∧ v.1.length ≤ 40 ∧ (v.1.map List.length).sum ≤ 40 := by
  have hg := big_ge
  unfold spec_MembersOf spec_MembersOf_s impl_MembersOf impl_MembersOf_s
  rw [l28Good_eq, implIsWord_eq, Option.bind_some, Option.bind_some]
  cases h : isWord w with
  | false => exact ⟨([], false, ()), rfl, rfl, by simp, by simp⟩
  | true =>
    have h1 := isWord_len h
    have h2 := ((isWord_iff w).1 h).2
    cases w with
    | nil => simp [we] at h2
    | cons x xs =>
      simp only [Bool.not_true, cond_false]
      rw [show atI (x :: xs) (0 : Int) = some x from rfl]
      simp only [Option.bind_some]
      by_cases h0 : 0 ≤ x
      · rw [cdt h0, cdt h0, l1Own_eq _ (by omega), clone_eq _ (by omega)]
        exact ⟨([x :: xs], true, ()), rfl, rfl, by simp, by simpa using h1⟩
      · rw [cdf h0, cdf h0]
        obtain ⟨ms, m1, m2, m3⟩ := members_ok (sign := x) (by omega) 40 (x :: xs) h1 (by omega) h2
        obtain ⟨m4, m5⟩ := m1 big (by omega)
        rw [m4, m5]
        exact ⟨(ms, true, ()), rfl, rfl, by simp only; omega, by simp only; omega⟩

theorem true_MembersOf (w : List Int) (_ : Wf (.pair (.sl I) .unit) (w, ())) : laws_FnExactMembersOf w = some (true, ()) := by
  unfold laws_FnExactMembersOf laws_FnExactMembersOf_s
  by_cases h : w.length ≤ 1048576
  · obtain ⟨v, v1, v2, v3, v4⟩ := members_eq w
    have hx : ∀ x ∈ v.1, x.length ≤ 4294967296 := by
      intro x hx
      have := len_le_sum hx
      omega
    rw [cdf (by omega)]
    simp only [toIntS_eq w (by omega), Option.bind_some, v1, v2, eqIntS_eq w w (by omega), eqIntSS_eq v.1 v.1 (by omega) hx,
      markIntS_eq w 1 (by omega) (by omega) (by omega), markIntSS_eq v.1 1 (by omega) (by omega) (by omega), heldIntSS_eq 1 (v.1.map List.length) (by simp; omega) (by omega) (by omega)]
    simp
    repeat rw [cdf (by omega)]
  · rw [cdt (by omega)]

end Go.Proofs.Ytbegnofapodldaa
