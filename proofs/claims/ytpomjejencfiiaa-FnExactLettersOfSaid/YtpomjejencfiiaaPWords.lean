import Derived.Test.YtpomjejencfiiaaPLaws
set_option linter.unusedVariables false
namespace Go.Proofs.Ytpomjejencfiiaa
open Go Go.Gx Go.Proofs

/-! marks -/
def marks : Int → Nat → List Int
  | _, 0 => []
  | k, n + 1 => k :: marks (k + 1) n

theorem marks_len : ∀ (k : Int) (n : Nat), (marks k n).length = n
  | _, 0 => rfl
  | k, n + 1 => by simp [marks, marks_len (k + 1) n]

theorem markIntS_l (N : Nat) (kk : List Int → Int → Option (Int × (List Int × Unit))) : ∀ (n : Nat) (a : List Int) (k : Int) (i : Nat), a.length - i < n → i ≤ a.length → a.length ≤ 1099511627776 → 0 ≤ k → k ≤ 1125899906842624 →
    k + (a.length - i : Nat) ≤ 1125899906842624 → laws_markIntS_l2 N kk n a k i = kk (a.take i ++ marks k (a.length - i)) (k + (a.length - i : Nat))
  | 0, _, _, _, h, _, _, _, _, _ => by omega
  | n + 1, a, k, i, h, hi, hb, hk0, hk, hk2 => by
    simp only [laws_markIntS_l2, laws_markIntS_b2]
    by_cases hlt : i < a.length
    · rw [cdt (by omega), atI_lt a i hlt, Option.bind_some, Int.toNat_natCast, List.getElem?_eq_getElem hlt, Option.bind_some, wr (by omega) (by omega), wr (by omega) (by omega)]
      have := markIntS_l N kk n (a.set i k) (k + 1) (i + 1) (by simp; omega) (by simp; omega) (by simpa using hb) (by omega) (by omega) (by simp; omega)
      rw [show ((i : Int) + 1) = ((i + 1 : Nat) : Int) by omega, this]
      rw [List.length_set, List.take_succ_eq_append_getElem (by simp; omega), List.take_set, List.set_eq_of_length_le (by simp [Nat.min_le_left]), List.append_assoc, List.getElem_set_self]
      have e : a.length - i = (a.length - (i + 1)) + 1 := by omega
      rw [e, marks]
      congr 1
      omega
    · rw [cdf (by omega)]
      have : i = a.length := by omega
      subst this
      simp [marks]

theorem markIntS_eq (a : List Int) (k : Int) (h : a.length ≤ 1099511627775) (hk : 0 ≤ k) (hk2 : k ≤ 1099511627776) : laws_markIntS big a k = some (k + a.length, (marks k a.length, ())) := by
  have hb := big_ge
  unfold laws_markIntS laws_markIntS_s laws_markIntS_F2
  have := markIntS_l big laws_markIntS_a2 big a k 0 (by omega) (by omega) (by omega) hk (by omega) (by omega)
  refine Eq.trans this ?_
  simp [laws_markIntS_a2]

theorem heldIntS_l (N : Nat) (kk : Int → Option (Int × Unit)) : ∀ (n : Nat) (a b : List Int) (k : Int) (d : Nat), d < n → a = b ++ marks k d → a.length ≤ 1099511627776 → 0 ≤ k → k + d ≤ 1125899906842624 →
    laws_heldIntS_l2 N kk n a k b.length = kk (k + d)
  | 0, _, _, _, _, h, _, _, _, _ => by omega
  | n + 1, a, b, k, d, h, ha, hb, hk0, hk => by
    simp only [laws_heldIntS_l2, laws_heldIntS_b2]
    have hlen : a.length = b.length + d := by rw [ha]; simp [marks_len]
    cases d with
    | zero => rw [cdf (by omega)]; simp
    | succ d =>
      have hlt : b.length < a.length := by omega
      have hx : a[b.length] = k := by
        have : a[b.length]? = some k := by rw [ha]; simp [marks]
        rw [List.getElem?_eq_getElem hlt] at this
        simpa using this
      rw [cdt (by omega), atI_lt a b.length hlt, Option.bind_some, hx, cdf (by simp), wr (by omega) (by omega), wr (by omega) (by omega)]
      have := heldIntS_l N kk n a (b ++ [k]) (k + 1) d (by omega) (by rw [ha, marks, List.append_assoc]; rfl) hb (by omega) (by omega)
      rw [List.length_append, List.length_singleton] at this
      rw [show ((b.length : Int) + 1) = ((b.length + 1 : Nat) : Int) by omega, this]
      congr 1
      omega

theorem heldIntS_eq (k : Int) (d : Nat) (h : d ≤ 1099511627775) (hk : 0 ≤ k) (hk2 : k ≤ 1099511627776) : laws_heldIntS big (marks k d) k = some (k + d, ()) := by
  have hb := big_ge
  unfold laws_heldIntS laws_heldIntS_s laws_heldIntS_F2
  exact heldIntS_l big laws_heldIntS_a2 big (marks k d) [] k d (by omega) rfl (by rw [marks_len]; omega) hk (by omega)

/-! words, further -/
theorem we_append : ∀ (s t : List Int) (n m c : Nat), we s n c = some (c + s.length) → we (s ++ t) (n + m) c = we t m (c + s.length)
  | [], t, n, m, c, h => by
    cases n with
    | zero => simp
    | succ n => simp [we] at h
  | x :: xs, t, 0, m, c, h => by simp [we] at h
  | x :: xs, t, n + 1, m, c, h => by
    simp only [we] at h
    split at h
    · cases h
    rename_i hx
    rw [show n + 1 + m = (n + m) + 1 by omega]
    simp only [List.cons_append, we]
    rw [if_neg hx]
    simp only [List.length_cons] at h ⊢
    split at h
    · rename_i h0
      rw [if_pos h0, we_append xs t n m (c + 1) (by rw [h]; congr 1; omega)]
      congr 1; omega
    · rename_i h0
      rw [if_neg h0, show n + m + 2 = (n + 2) + m by omega, we_append xs t (n + 2) m (c + 1) (by rw [h]; congr 1; omega)]
      congr 1; omega

theorem we_shift : ∀ (s : List Int) (n c d : Nat), we s n (c + d) = (we s n c).map (· + d)
  | s, 0, c, d => by simp [we_zero]
  | [], n + 1, c, d => by simp [we]
  | x :: xs, n + 1, c, d => by
    simp only [we]
    rw [show c + d + 1 = (c + 1) + d by omega, we_shift xs n (c + 1) d, we_shift xs (n + 2) (c + 1) d]
    split
    · rfl
    · split <;> rfl

theorem we_mem : ∀ (s : List Int) (n c : Nat), we s n c = some (c + s.length) → ∀ x ∈ s, -2 ≤ x ∧ x < 5
  | [], _, _, _, x, hx => by cases hx
  | y :: ys, 0, c, h, _, _ => by simp [we] at h
  | y :: ys, n + 1, c, h, x, hx => by
    simp only [we] at h
    split at h
    · cases h
    rename_i hy
    simp only [List.length_cons] at h
    rcases List.mem_cons.1 hx with rfl | hx
    · omega
    · split at h
      · exact we_mem ys n (c + 1) (by rw [h]; congr 1; omega) x hx
      · exact we_mem ys (n + 2) (c + 1) (by rw [h]; congr 1; omega) x hx

theorem isWord_iff (w : List Int) : isWord w = true ↔ w.length ≤ 40 ∧ we w 1 0 = some w.length := by
  unfold isWord wEnd
  simp only [List.drop_zero, Bool.and_eq_true, decide_eq_true_eq]
  refine and_congr Iff.rfl ?_
  cases h : we w 1 0 with
  | none => simp
  | some e => simp; omega

theorem isWord_put {sign : Int} {s t : List Int} (hsg : sign = -1 ∨ sign = -2) (hs : isWord s = true) (ht : isWord t = true) : isWord (sign :: (s ++ t)) = decide (s.length + t.length + 1 ≤ 40) := by
  rw [isWord_iff] at hs ht
  rw [Bool.eq_iff_iff, isWord_iff, decide_eq_true_eq]
  have e1 : we s 1 1 = some (1 + s.length) := by
    have := we_shift s 1 0 1
    rw [Nat.zero_add] at this
    rw [this, hs.2]; simp [Nat.add_comm]
  have e2 := we_append s t 1 1 1 e1
  have e3 := we_shift t 1 0 (1 + s.length)
  rw [Nat.zero_add, ht.2] at e3
  have hw : we (sign :: (s ++ t)) 1 0 = some (s.length + t.length + 1) := by
    simp only [we]
    rw [if_neg (by omega), if_neg (by omega), Nat.zero_add, Nat.zero_add]
    show we (s ++ t) (1 + 1) 1 = _
    rw [e2, e3]
    simp; omega
  rw [hw]
  simp

theorem isWord_len {w : List Int} (h : isWord w = true) : w.length ≤ 40 := ((isWord_iff w).1 h).1

/-! the functions -/
theorem l28Two_eq (s t : List Int) : spec_l28Two s t = some (isWord s && isWord t, ()) := by
  unfold spec_l28Two spec_l28Two_s
  rw [l28Good_eq, l28Good_eq, Option.bind_some, Option.bind_some]
  cases isWord s <;> rfl
theorem areWords_eq (s t : List Int) : impl_areWords s t = some (isWord s && isWord t, ()) := by
  unfold impl_areWords impl_areWords_s
  rw [implIsWord_eq, implIsWord_eq, Option.bind_some, Option.bind_some]
  cases isWord s <;> rfl
theorem l28Give_eq (w : List Int) : spec_l28Give w = some ((if isWord w then (w, true, ()) else ([], false, ())), ()) := by
  unfold spec_l28Give spec_l28Give_s
  rw [l28Good_eq, Option.bind_some]
  cases isWord w <;> rfl
theorem l28Put_eq (g : Int) (s t : List Int) (h : s.length + t.length ≤ 1000000) : spec_l28Put g s t = some (g :: (s ++ t), ()) := by
  unfold spec_l28Put spec_l28Put_s
  rw [appI_ok (by simp; omega), Option.bind_some, appI_ok (by simp; omega), Option.bind_some]
  simp
theorem combine_eq (g : Int) (s t : List Int) (h : s.length + t.length ≤ 1000000) : impl_combine g s t = some (g :: (s ++ t), ()) := by
  unfold impl_combine impl_combine_s
  rw [appI_ok (by simp; omega), Option.bind_some, appI_ok (by simp; omega), Option.bind_some]
  simp

/-- the meet or join -/
def combined (g : Int) (s t : List Int) : List Int × Bool × Unit := if isWord s && isWord t && decide (s.length + t.length + 1 ≤ 40) then (g :: (s ++ t), true, ()) else ([], false, ())

theorem combined_eq {g : Int} (s t : List Int) : impl_combined g s t = some (combined g s t, ()) := by
  unfold impl_combined impl_combined_s combined
  rw [areWords_eq, Option.bind_some]
  cases h : isWord s && isWord t with
  | false => simp
  | true =>
    simp only [Bool.and_eq_true] at h
    have h1 := isWord_len h.1
    have h2 := isWord_len h.2
    rw [wr (n := (s.length : Int) + (t.length : Int)) (by omega) (by omega), wr (by omega) (by omega)]
    simp only [Bool.not_true, cond_false, Bool.true_and, cd, decide_eq_true_eq]
    by_cases hl : s.length + t.length + 1 ≤ 40
    · rw [if_neg (by omega), if_pos hl, combine_eq g s t (by omega), Option.bind_some]
    · rw [if_pos (by omega), if_neg hl]

theorem specComb {g : Int} (hg : g = -1 ∨ g = -2) (s t : List Int) : ((spec_l28Two s t).bind fun r => cond (!r.1) (some (([], false, ()), ())) ((spec_l28Put g s t).bind fun r2 => (spec_l28Give r2.1).bind fun r3 => some ((r3.1.1, r3.1.2.1, ()), ()))) = some (combined g s t, ()) := by
  unfold combined
  rw [l28Two_eq, Option.bind_some]
  cases h : isWord s && isWord t with
  | false => simp
  | true =>
    simp only [Bool.and_eq_true] at h
    have h1 := isWord_len h.1
    have h2 := isWord_len h.2
    simp only [Bool.not_true, cond_false, Bool.true_and, l28Put_eq g s t (by omega), Option.bind_some, l28Give_eq, isWord_put hg h.1 h.2, decide_eq_true_eq]

theorem specJoin_eq (s t : List Int) : spec_JoinWords s t = some (combined (-2) s t, ()) := specComb (.inr rfl) s t
theorem specMeet_eq (s t : List Int) : spec_MeetWords s t = some (combined (-1) s t, ()) := specComb (.inl rfl) s t
theorem implJoin_eq (s t : List Int) : impl_JoinWords s t = some (combined (-2) s t, ()) := by
  unfold impl_JoinWords impl_JoinWords_s
  rw [combined_eq]; rfl
theorem implMeet_eq (s t : List Int) : impl_MeetWords s t = some (combined (-1) s t, ()) := by
  unfold impl_MeetWords impl_MeetWords_s
  rw [combined_eq]; rfl

theorem combined_len (g : Int) (s t : List Int) : (combined g s t).1.length ≤ 40 := by
  unfold combined
  split
  · rename_i h; simp at h ⊢; omega
  · simp

theorem true_JoinWords (s t : List Int) (_ : Wf (.pair (.sl I) (.pair (.sl I) .unit)) (s, t, ())) : laws_FnExactJoinWords s t = some (true, ()) := by
  unfold laws_FnExactJoinWords laws_FnExactJoinWords_s
  by_cases h : s.length ≤ 1048576
  · rw [cdf (by omega)]
    by_cases h2 : t.length ≤ 1048576
    · have hl := combined_len (-2) s t
      rw [cdf (by omega)]
      simp only [toIntS_eq s (by omega), toIntS_eq t (by omega), Option.bind_some, specJoin_eq, implJoin_eq, eqIntS_eq s s (by omega), eqIntS_eq t t (by omega), eqIntS_eq _ _ (show (combined (-2) s t).1.length ≤ 1099511627775 by omega),
        markIntS_eq s 1 (by omega) (by omega) (by omega), markIntS_eq t (1 + (s.length : Int)) (by omega) (by omega) (by omega), markIntS_eq (combined (-2) s t).1 1 (by omega) (by omega) (by omega), heldIntS_eq 1 (combined (-2) s t).1.length (by omega) (by omega) (by omega)]
      simp
      repeat rw [cdf (by omega)]
    · rw [cdt (by omega)]
  · rw [cdt (by omega)]

theorem true_MeetWords (s t : List Int) (_ : Wf (.pair (.sl I) (.pair (.sl I) .unit)) (s, t, ())) : laws_FnExactMeetWords s t = some (true, ()) := by
  unfold laws_FnExactMeetWords laws_FnExactMeetWords_s
  by_cases h : s.length ≤ 1048576
  · rw [cdf (by omega)]
    by_cases h2 : t.length ≤ 1048576
    · have hl := combined_len (-1) s t
      rw [cdf (by omega)]
      simp only [toIntS_eq s (by omega), toIntS_eq t (by omega), Option.bind_some, specMeet_eq, implMeet_eq, eqIntS_eq s s (by omega), eqIntS_eq t t (by omega), eqIntS_eq _ _ (show (combined (-1) s t).1.length ≤ 1099511627775 by omega),
        markIntS_eq s 1 (by omega) (by omega) (by omega), markIntS_eq t (1 + (s.length : Int)) (by omega) (by omega) (by omega), markIntS_eq (combined (-1) s t).1 1 (by omega) (by omega) (by omega), heldIntS_eq 1 (combined (-1) s t).1.length (by omega) (by omega) (by omega)]
      simp
      repeat rw [cdf (by omega)]
    · rw [cdt (by omega)]
  · rw [cdt (by omega)]

theorem true_WordSize (w : List Int) (_ : Wf (.pair (.sl I) .unit) (w, ())) : laws_FnExactWordSize w = some (true, ()) := by
  unfold laws_FnExactWordSize laws_FnExactWordSize_s
  by_cases h : w.length ≤ 1048576
  · rw [cdf (by omega)]
    have e : spec_WordSize w = impl_WordSize w := by
      unfold spec_WordSize spec_WordSize_s impl_WordSize impl_WordSize_s
      rw [l28Good_eq, implIsWord_eq]
    have e2 : ∃ r, impl_WordSize w = some (r, ()) := by
      unfold impl_WordSize impl_WordSize_s
      rw [implIsWord_eq, Option.bind_some]
      cases isWord w with
      | false => exact ⟨_, rfl⟩
      | true => exact ⟨_, by simp [quoI]; rfl⟩
    obtain ⟨r, hr⟩ := e2
    simp only [toIntS_eq w (by omega), Option.bind_some, e, hr, eqIntS_eq w w (by omega)]
    simp
  · rw [cdt (by omega)]

end Go.Proofs.Ytpomjejencfiiaa
