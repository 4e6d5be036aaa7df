import Derived.Test.YtpomjejencfiiaaPWords
set_option linter.unusedVariables false
namespace Go.Proofs.Ytpomjejencfiiaa
open Go Go.Gx Go.Proofs

def dual1 (x : Int) : Int := if x < 0 then -3 - x else x

theorem specDual_l (N : Nat) (k : List Int → Option (List Int × Unit)) : ∀ (n : Nat) (w out : List Int) (i : Nat), w.length - i < n → i ≤ w.length → w.length ≤ 1000000 → out.length = i → (∀ x ∈ w, -2 ≤ x ∧ x < 5) →
    spec_l28Dual_l3 N k n w out i = k (out ++ (w.drop i).map dual1)
  | 0, _, _, _, h, _, _, _, _ => by omega
  | n + 1, w, out, i, h, hi, hb, ho, hw => by
    simp only [spec_l28Dual_l3, spec_l28Dual_b3]
    by_cases hlt : i < w.length
    · have hx := hw w[i] (List.getElem_mem hlt)
      have ih := specDual_l N k n w (out ++ [dual1 w[i]]) (i + 1) (by omega) (by omega) hb (by simp [ho]) hw
      rw [cdt (by omega), atI_lt w i hlt, Option.bind_some, Option.bind_some, Option.bind_some, appI_ok (by simp; omega), appI_ok (by simp; omega), Option.bind_some, Option.bind_some, wr (n := (i : Int) + 1) (by omega) (by omega), wr (n := (-3 : Int) - w[i]) (by omega) (by omega)]
      rw [show ((i : Int) + 1) = ((i + 1 : Nat) : Int) by omega]
      rw [List.drop_eq_getElem_cons hlt, List.map_cons]
      rw [List.append_assoc, List.singleton_append] at ih
      rw [← ih]
      by_cases hn : w[i] < 0
      · rw [cdt hn, dual1, if_pos hn]
      · rw [cdf hn, dual1, if_neg hn]
    · rw [cdf (by omega), List.drop_eq_nil_of_le (by omega)]
      simp

theorem specDual_eq (w : List Int) (hb : w.length ≤ 1000000) (hw : ∀ x ∈ w, -2 ≤ x ∧ x < 5) : spec_l28Dual big w = some (w.map dual1, ()) := by
  have hg := big_ge
  unfold spec_l28Dual spec_l28Dual_s spec_l28Dual_F3
  refine Eq.trans (specDual_l big spec_l28Dual_a3 big w [] 0 (by omega) (by omega) hb rfl hw) ?_
  simp [spec_l28Dual_a3]

theorem implDual_l (N : Nat) (k : List Int → Option (List Int × Unit)) : ∀ (n : Nat) (d : List Int) (i : Nat), d.length - i < n → i ≤ d.length → d.length ≤ 1000000 → (∀ x ∈ d, -2 ≤ x ∧ x < 5) →
    impl_dualWord_l3 N k n d (d.length : Int) i = k (d.take i ++ (d.drop i).map dual1)
  | 0, _, _, h, _, _, _ => by omega
  | n + 1, d, i, h, hi, hb, hw => by
    simp only [impl_dualWord_l3, impl_dualWord_b3]
    by_cases hlt : i < d.length
    · have hx := hw d[i] (List.getElem_mem hlt)
      rw [cdt (by omega), atI_lt d i hlt, Option.bind_some, Int.toNat_natCast, List.getElem?_eq_getElem hlt, Option.bind_some, Option.bind_some, Option.bind_some, wr (n := (i : Int) + 1) (by omega) (by omega), wr (n := (-3 : Int) - d[i]) (by omega) (by omega)]
      rw [show ((i : Int) + 1) = ((i + 1 : Nat) : Int) by omega]
      rw [List.drop_eq_getElem_cons hlt, List.map_cons]
      by_cases hn : d[i] < 0
      · have ih := implDual_l N k n (d.set i (-3 - d[i])) (i + 1) (by simp; omega) (by simp; omega) (by simpa using hb) (fun x hx' => by
          rcases List.mem_or_eq_of_mem_set hx' with h' | h'
          · exact hw x h'
          · omega)
        rw [List.length_set] at ih
        rw [cdt hn, ih, dual1, if_pos hn]
        rw [List.take_succ_eq_append_getElem (by simp; omega), List.take_set, List.set_eq_of_length_le (by simp [Nat.min_le_left]), List.append_assoc, List.getElem_set_self, List.drop_set_of_lt (by omega)]
        rfl
      · have ih := implDual_l N k n d (i + 1) (by omega) (by omega) hb hw
        rw [cdf hn, ih, dual1, if_neg hn, List.take_succ_eq_append_getElem hlt, List.append_assoc]
        rfl
    · rw [cdf (by omega), List.drop_eq_nil_of_le (by omega), List.take_of_length_le (by omega)]
      simp

theorem clone_eq (w : List Int) (h : w.length ≤ 4294967296) : impl_clone w = some (w, ()) := by
  unfold impl_clone impl_clone_s
  rw [appI_ok (by simp; omega), Option.bind_some]
  simp

theorem implDual_eq (w : List Int) (hb : w.length ≤ 1000000) (hw : ∀ x ∈ w, -2 ≤ x ∧ x < 5) : impl_dualWord big w = some (w.map dual1, ()) := by
  have hg := big_ge
  unfold impl_dualWord impl_dualWord_s impl_dualWord_F3
  rw [clone_eq w (by omega), Option.bind_some]
  refine Eq.trans (implDual_l big impl_dualWord_a3 big w 0 (by omega) (by omega) hb hw) ?_
  simp [impl_dualWord_a3]

theorem isWord_mem {w : List Int} (h : isWord w = true) : ∀ x ∈ w, -2 ≤ x ∧ x < 5 := by
  rw [isWord_iff] at h
  exact we_mem w 1 0 (by rw [h.2]; simp)

def dualV (w : List Int) : List Int × Bool × Unit := if isWord w then (w.map dual1, true, ()) else ([], false, ())

theorem specDualWord_eq (w : List Int) : spec_DualWord w = some (dualV w, ()) := by
  unfold spec_DualWord spec_DualWord_s dualV
  rw [l28Good_eq, Option.bind_some]
  cases h : isWord w with
  | false => rfl
  | true =>
    have := isWord_len h
    simp only [Bool.not_true, cond_false, specDual_eq w (by omega) (isWord_mem h), Option.bind_some, if_true]

theorem implDualWord_eq (w : List Int) : impl_DualWord w = some (dualV w, ()) := by
  unfold impl_DualWord impl_DualWord_s dualV
  rw [implIsWord_eq, Option.bind_some]
  cases h : isWord w with
  | false => rfl
  | true =>
    have := isWord_len h
    simp only [Bool.not_true, cond_false, implDual_eq w (by omega) (isWord_mem h), Option.bind_some, if_true]

theorem dualV_len (w : List Int) : (dualV w).1.length ≤ 40 := by
  unfold dualV
  split
  · rename_i h; have := isWord_len h; simpa using this
  · simp

theorem true_DualWord (w : List Int) (_ : Wf (.pair (.sl I) .unit) (w, ())) : laws_FnExactDualWord w = some (true, ()) := by
  unfold laws_FnExactDualWord laws_FnExactDualWord_s
  by_cases h : w.length ≤ 1048576
  · have hl := dualV_len w
    rw [cdf (by omega)]
    simp only [toIntS_eq w (by omega), Option.bind_some, specDualWord_eq, implDualWord_eq, eqIntS_eq w w (by omega), eqIntS_eq _ _ (show (dualV w).1.length ≤ 1099511627775 by omega),
      markIntS_eq w 1 (by omega) (by omega) (by omega), markIntS_eq (dualV w).1 1 (by omega) (by omega) (by omega), heldIntS_eq 1 (dualV w).1.length (by omega) (by omega) (by omega)]
    simp
    repeat rw [cdf (by omega)]
  · rw [cdt (by omega)]

/-! substitution -/
def subst (l : Int) (s : List Int) : List Int → List Int
  | [] => []
  | x :: xs => if x = l then s ++ subst l s xs else x :: subst l s xs

theorem subst_len (l : Int) (s : List Int) (hs : s.length ≤ 40) : ∀ w : List Int, (subst l s w).length ≤ 40 * w.length
  | [] => by simp [subst]
  | x :: xs => by
    have := subst_len l s hs xs
    simp only [subst, List.length_cons]
    split
    · simp; omega
    · simp; omega

theorem we_subst {l : Int} {s : List Int} (hl : 0 ≤ l) (hs : we s 1 0 = some s.length) : ∀ (w : List Int) (n c c' : Nat), we w n c = some (c + w.length) → we (subst l s w) n c' = some (c' + (subst l s w).length)
  | [], n, c, c', h => by
    cases n with
    | zero => simp [subst, we]
    | succ n => simp [we] at h
  | x :: xs, 0, c, c', h => by simp [we] at h
  | x :: xs, n + 1, c, c', h => by
    simp only [we] at h
    split at h
    · cases h
    rename_i hx
    simp only [List.length_cons] at h
    simp only [subst]
    split
    · rename_i he
      subst he
      rw [if_pos hl] at h
      have e1 : we s 1 c' = some (c' + s.length) := by
        have := we_shift s 1 0 c'
        rw [Nat.zero_add, hs] at this
        rw [this]; simp [Nat.add_comm]
      have e2 := we_append s (subst x s xs) 1 n c' e1
      rw [show n + 1 = 1 + n by omega, e2]
      have := we_subst hl hs xs n (c + 1) (c' + s.length) (by rw [h]; congr 1; omega)
      rw [this]
      simp; omega
    · rename_i he
      simp only [we]
      rw [if_neg hx]
      split at h
      · rename_i h0
        rw [if_pos h0, we_subst hl hs xs n (c + 1) (c' + 1) (by rw [h]; congr 1; omega)]
        simp; omega
      · rename_i h0
        rw [if_neg h0, we_subst hl hs xs (n + 2) (c + 1) (c' + 1) (by rw [h]; congr 1; omega)]
        simp; omega

theorem isWord_subst {l : Int} {w s : List Int} (hl : 0 ≤ l) (hw : isWord w = true) (hs : isWord s = true) : isWord (subst l s w) = decide ((subst l s w).length ≤ 40) := by
  rw [isWord_iff] at hw hs
  rw [Bool.eq_iff_iff, isWord_iff, decide_eq_true_eq]
  have := we_subst hl hs.2 w 1 0 0 (by rw [hw.2]; simp)
  rw [Nat.zero_add] at this
  rw [this]
  simp

theorem specSubst_l (N : Nat) (k : List Int → Option ((List Int × (Bool × Unit)) × Unit)) (l : Int) (s : List Int) (hs : s.length ≤ 40) : ∀ (n : Nat) (w out : List Int) (i : Nat), w.length - i < n → i ≤ w.length → w.length ≤ 40 → out.length ≤ 40 * i →
    spec_SubstituteWord_l5 N k n w l s out i = k (out ++ subst l s (w.drop i))
  | 0, _, _, _, h, _, _, _ => by omega
  | n + 1, w, out, i, h, hi, hb, ho => by
    simp only [spec_SubstituteWord_l5, spec_SubstituteWord_b5]
    by_cases hlt : i < w.length
    · rw [cdt (by omega), atI_lt w i hlt, Option.bind_some, Option.bind_some, appI_ok (by omega), appI_ok (by simp; omega), Option.bind_some, Option.bind_some, wr (n := (i : Int) + 1) (by omega) (by omega)]
      rw [show ((i : Int) + 1) = ((i + 1 : Nat) : Int) by omega, List.drop_eq_getElem_cons hlt]
      simp only [subst]
      by_cases hx : w[i] = l
      · rw [cdt hx, if_pos hx, specSubst_l N k l s hs n w (out ++ s) (i + 1) (by omega) (by omega) hb (by simp; omega), List.append_assoc]
      · rw [cdf hx, if_neg hx, specSubst_l N k l s hs n w (out ++ [w[i]]) (i + 1) (by omega) (by omega) hb (by simp; omega), List.append_assoc]
        rfl
    · rw [cdf (by omega), List.drop_eq_nil_of_le (by omega)]
      simp [subst]

theorem implSubst_l (N : Nat) (k : List Int → Option ((List Int × (Bool × Unit)) × Unit)) (l : Int) (s : List Int) (hs : s.length ≤ 40) : ∀ (n : Nat) (w out : List Int) (i : Nat), w.length - i < n → i ≤ w.length → w.length ≤ 40 → out.length ≤ 40 * i →
    impl_SubstituteWord_l5 N k n l s out w (w.length : Int) i = k (out ++ subst l s (w.drop i))
  | 0, _, _, _, h, _, _, _ => by omega
  | n + 1, w, out, i, h, hi, hb, ho => by
    simp only [impl_SubstituteWord_l5, impl_SubstituteWord_b5]
    by_cases hlt : i < w.length
    · rw [cdt (by omega), atI_lt w i hlt, Option.bind_some, appI_ok (by omega), appI_ok (by simp; omega), Option.bind_some, Option.bind_some, wr (n := (i : Int) + 1) (by omega) (by omega)]
      rw [show ((i : Int) + 1) = ((i + 1 : Nat) : Int) by omega, List.drop_eq_getElem_cons hlt]
      simp only [subst]
      by_cases hx : w[i] = l
      · rw [cdt hx, if_pos hx, implSubst_l N k l s hs n w (out ++ s) (i + 1) (by omega) (by omega) hb (by simp; omega), List.append_assoc]
      · rw [cdf hx, if_neg hx, implSubst_l N k l s hs n w (out ++ [w[i]]) (i + 1) (by omega) (by omega) hb (by simp; omega), List.append_assoc]
        rfl
    · rw [cdf (by omega), List.drop_eq_nil_of_le (by omega)]
      simp [subst]

def substV (w : List Int) (l : Int) (s : List Int) : List Int × Bool × Unit := if isWord w && isWord s && decide (0 ≤ l ∧ l ≤ 4) && decide ((subst l s w).length ≤ 40) then (subst l s w, true, ()) else ([], false, ())

theorem specSubst_eq (w : List Int) (l : Int) (s : List Int) : spec_SubstituteWord big w l s = some (substV w l s, ()) := by
  have hg := big_ge
  unfold spec_SubstituteWord spec_SubstituteWord_s substV
  rw [l28Two_eq, Option.bind_some, l1In_eq, Option.bind_some]
  cases h : isWord w && isWord s with
  | false => simp
  | true =>
    simp only [Bool.and_eq_true] at h
    have h1 := isWord_len h.1
    have h2 := isWord_len h.2
    by_cases hl : 0 ≤ l ∧ l ≤ 4
    · unfold spec_SubstituteWord_F5
      have := specSubst_l big spec_SubstituteWord_a5 l s h2 big w [] 0 (by omega) (by omega) h1 (by simp)
      simp only [Bool.not_true, cond_false, hl, and_self, decide_true, Bool.true_and]
      refine Eq.trans this ?_
      simp only [List.drop_zero, List.nil_append, spec_SubstituteWord_a5, l28Give_eq, Option.bind_some, isWord_subst hl.1 h.1 h.2]
    · simp [hl]

theorem implSubst_eq (w : List Int) (l : Int) (s : List Int) : impl_SubstituteWord big w l s = some (substV w l s, ()) := by
  have hg := big_ge
  unfold impl_SubstituteWord impl_SubstituteWord_s substV
  rw [areWords_eq, Option.bind_some]
  cases h : isWord w && isWord s with
  | false => simp
  | true =>
    simp only [Bool.and_eq_true] at h
    have h1 := isWord_len h.1
    have h2 := isWord_len h.2
    by_cases hl : 0 ≤ l ∧ l ≤ 4
    · unfold impl_SubstituteWord_F5
      have := implSubst_l big impl_SubstituteWord_a5 l s h2 big w [] 0 (by omega) (by omega) h1 (by simp)
      simp only [Bool.not_true, cond_false, hl, and_self, decide_true, Bool.true_and]
      rw [cdf (by omega), cdf (by omega)]
      refine Eq.trans this ?_
      simp only [List.drop_zero, List.nil_append, impl_SubstituteWord_a5, cd, decide_eq_true_eq]
      by_cases hq : (subst l s w).length ≤ 40
      · rw [if_neg (by omega), if_pos hq]
      · rw [if_pos (by omega), if_neg hq]
    · simp only [Bool.not_true, cond_false, cd]
      by_cases h0 : l < 0
      · rw [if_pos h0]; simp [hl]
      · rw [if_neg h0, if_pos (by omega)]; simp [hl]

theorem substV_len (w : List Int) (l : Int) (s : List Int) : (substV w l s).1.length ≤ 40 := by
  unfold substV
  split
  · rename_i h; simp at h ⊢; omega
  · simp

theorem true_SubstituteWord (w : List Int) (l : Int) (s : List Int) (_ : Wf (.pair (.sl I) (.pair I (.pair (.sl I) .unit))) (w, l, s, ())) : laws_FnExactSubstituteWord w l s = some (true, ()) := by
  unfold laws_FnExactSubstituteWord laws_FnExactSubstituteWord_s
  by_cases h : w.length ≤ 1048576
  · rw [cdf (by omega)]
    by_cases h2 : s.length ≤ 1048576
    · have hl := substV_len w l s
      rw [cdf (by omega)]
      simp only [toIntS_eq w (by omega), toIntS_eq s (by omega), Option.bind_some, specSubst_eq, implSubst_eq, eqIntS_eq w w (by omega), eqIntS_eq s s (by omega), eqIntS_eq _ _ (show (substV w l s).1.length ≤ 1099511627775 by omega),
        markIntS_eq w 1 (by omega) (by omega) (by omega), markIntS_eq s (1 + (w.length : Int)) (by omega) (by omega) (by omega), markIntS_eq (substV w l s).1 1 (by omega) (by omega) (by omega), heldIntS_eq 1 (substV w l s).1.length (by omega) (by omega) (by omega)]
      simp
      repeat rw [cdf (by omega)]
    · rw [cdt (by omega)]
  · rw [cdt (by omega)]

end Go.Proofs.Ytpomjejencfiiaa
