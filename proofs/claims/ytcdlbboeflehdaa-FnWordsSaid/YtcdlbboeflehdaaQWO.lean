import Derived.Test.YtcdlbboeflehdaaPTab
import Derived.Test.YtcdlbboeflehdaaHWO
import Derived.KernelRfl
set_option linter.unusedVariables false
set_option linter.unusedSimpArgs false
namespace Go.Proofs.Ytcdlbboeflehdaa
open Go Go.Gx Go.Proofs

def we : List Int → Nat → Nat → Option Nat
  | _, 0, c => some c
  | [], _ + 1, _ => none
  | x :: xs, n + 1, c => if x < -2 ∨ 5 ≤ x then none else if 0 ≤ x then we xs n (c + 1) else we xs (n + 2) (c + 1)

theorem we_zero (xs : List Int) (c : Nat) : we xs 0 c = some c := by cases xs <;> rfl

def wEnd (w : List Int) (i : Nat) : Int := match we (w.drop i) 1 i with
  | some e => e
  | none => -1

theorem wordEnd_l (N : Nat) (k : Int → Option (Int × Unit)) : ∀ (n : Nat) (w : List Int) (i need : Nat), w.length - i + 1 < n → i ≤ w.length → need + (w.length - i) ≤ 4611686018427387904 → w.length ≤ 4611686018427387904 →
    zz14_l2 N k n w i need = match we (w.drop i) need i with | some e => k e | none => some (-1, ())
  | 0, _, _, _, h, _, _, _ => by omega
  | n + 1, w, i, need, h, hi, hn, hb => by
    simp only [zz14_l2, zz14_b2]
    cases need with
    | zero => rw [cdf (by omega), we_zero]
    | succ need =>
      rw [cdt (by omega)]
      by_cases hlt : i < w.length
      · rw [cdf (by omega), atI_lt w i hlt, Option.bind_some, Option.bind_some, Option.bind_some, wr (n := (i : Int) + 1) (by omega) (by omega), wr (n := ((need + 1 : Nat) : Int) - 1) (by omega) (by omega), wr (n := ((need + 1 : Nat) : Int) + 1) (by omega) (by omega)]
        have h1 := wordEnd_l N k n w (i + 1) need (by omega) (by omega) (by omega) hb
        have h2 := wordEnd_l N k n w (i + 1) (need + 2) (by omega) (by omega) (by omega) hb
        rw [show ((i : Int) + 1) = ((i + 1 : Nat) : Int) by omega, show (((need + 1 : Nat) : Int) - 1) = (need : Int) by omega, show (((need + 1 : Nat) : Int) + 1) = ((need + 2 : Nat) : Int) by omega, h1, h2]
        rw [List.drop_eq_getElem_cons hlt]
        simp only [we]
        by_cases c1 : w[i] < -2
        · rw [cdt c1, if_pos (.inl c1)]
        · rw [cdf c1]
          by_cases c2 : 5 ≤ w[i]
          · rw [cdt c2, if_pos (.inr c2)]
          · rw [cdf c2, if_neg (by omega)]
            by_cases c3 : 0 ≤ w[i]
            · rw [cdt c3, if_pos c3]
            · rw [cdf c3, if_neg c3]
      · rw [cdt (by omega), List.drop_eq_nil_of_le (by omega)]
        rfl

theorem wordEnd_eq (w : List Int) (i : Nat) (hi : i ≤ w.length) (hb : w.length ≤ 1000000000) : zz14 big w i = some (wEnd w i, ()) := by
  have hg := big_ge
  unfold zz14 zz14_s zz14_F2
  have := wordEnd_l big zz14_a2 big w i 1 (by omega) hi (by omega) (by omega)
  rw [show (1 : Int) = ((1 : Nat) : Int) from rfl, this]
  unfold wEnd
  cases we (w.drop i) 1 i <;> rfl

theorem l1In_eq (x a b : Int) : zz9 x a b = some (decide (a ≤ x ∧ x ≤ b), ()) := by
  unfold zz9 zz9_s
  by_cases h : a ≤ x <;> simp [h]

theorem l28End_l (N : Nat) : ∀ (n : Nat) (w : List Int) (i o : Nat), w.length - i < n → i ≤ w.length → o + 1 + (w.length - i) ≤ 4611686018427387904 → w.length ≤ 4611686018427387904 →
    zz10_l3 N zz10_a3 n w ((o + 1 : Nat) : Int) i = some (match we (w.drop i) (o + 1) i with | some e => e | none => -1, ())
  | 0, _, _, _, h, _, _, _ => by omega
  | n + 1, w, i, o, h, hi, hn, hb => by
    simp only [zz10_l3, zz10_b3]
    by_cases hlt : i < w.length
    · rw [cdt (by omega), atI_lt w i hlt]
      simp only [Option.bind_some, l1In_eq]
      rw [wr (n := (i : Int) + 1) (by omega) (by omega), wr (n := ((o + 1 : Nat) : Int) - 1) (by omega) (by omega), wr (n := ((o + 1 : Nat) : Int) + 1) (by omega) (by omega)]
      have h2 := l28End_l N n w (i + 1) (o + 1) (by omega) (by omega) (by omega) hb
      rw [show ((i : Int) + 1) = ((i + 1 : Nat) : Int) by omega, show (((o + 1 : Nat) : Int) + 1) = ((o + 1 + 1 : Nat) : Int) by omega, h2]
      rw [List.drop_eq_getElem_cons hlt]
      simp only [we]
      rw [cdf (show ¬ (((o + 1 + 1 : Nat) : Int) = 0) by omega)]
      by_cases c1 : w[i] = -1
      · rw [cdt c1, if_neg (by omega), if_neg (by omega)]
      · rw [cdf c1]
        by_cases c2 : w[i] = -2
        · rw [cdt c2, if_neg (by omega), if_neg (by omega)]
        · rw [cdf c2]
          by_cases c3 : 0 ≤ w[i] ∧ w[i] ≤ 4
          · rw [cdt c3, if_neg (by omega), if_pos c3.1]
            cases o with
            | zero => rw [cdt (by omega), we_zero]
            | succ o =>
              have h1 := l28End_l N n w (i + 1) o (by omega) (by omega) (by omega) hb
              rw [cdf (by omega), show (((o + 1 + 1 : Nat) : Int) - 1) = ((o + 1 : Nat) : Int) by omega, h1]
          · rw [cdf c3, if_pos (by omega)]
    · rw [cdf (by omega), List.drop_eq_nil_of_le (by omega)]
      rfl

theorem l28End_eq (w : List Int) (i : Nat) (hi : i ≤ w.length) (hb : w.length ≤ 1000000000) : zz10 big w i = some (wEnd w i, ()) := by
  have hg := big_ge
  unfold zz10 zz10_s zz10_F3
  have := l28End_l big big w i 0 (by omega) hi (by omega) (by omega)
  rw [show (1 : Int) = ((0 + 1 : Nat) : Int) from rfl, this]
  rfl

def isWord (w : List Int) : Bool := decide (w.length ≤ 40) && decide (wEnd w 0 = w.length)

theorem implIsWord_eq (w : List Int) : zz15 w = some (isWord w, ()) := by
  unfold zz15 zz15_s isWord
  by_cases h : w.length ≤ 40
  · rw [cdt (by omega), show (0 : Int) = ((0 : Nat) : Int) from rfl, wordEnd_eq w 0 (by omega) (by omega), Option.bind_some]
    simp [h]
  · rw [cdf (by omega)]
    simp [h]

theorem l28Good_eq (w : List Int) : zz11 w = some (isWord w, ()) := by
  unfold zz11 zz11_s isWord
  by_cases h : w.length ≤ 40
  · rw [cdt (by omega), show (0 : Int) = ((0 : Nat) : Int) from rfl, l28End_eq w 0 (by omega) (by omega), Option.bind_some]
    by_cases he : wEnd w 0 = w.length
    · rw [cdt he]
      have : 0 < w.length := by
        rcases Nat.eq_zero_or_pos w.length with h0 | h0
        · have : w = [] := List.eq_nil_of_length_eq_zero h0
          subst this
          simp [wEnd, we] at he
        · exact h0
      simp [h, he]; omega
    · rw [cdf he]; simp [h, he]
  · rw [cdf (by omega)]
    simp [h]

theorem we_shift : ∀ (s : List Int) (n c d : Nat), we s n (c + d) = (we s n c).map (· + d)
  | s, 0, c, d => by simp [we_zero]
  | [], n + 1, c, d => by simp [we]
  | x :: xs, n + 1, c, d => by
    simp only [we]
    rw [show c + d + 1 = (c + 1) + d by omega, we_shift xs n (c + 1) d, we_shift xs (n + 2) (c + 1) d]
    split
    · rfl
    · split <;> rfl

theorem we_mem : ∀ (s : List Int) (n c : Nat), we s n c = some (c + s.length) → ∀ x ∈ s, -2 ≤ x ∧ x < 5
  | [], _, _, _, x, hx => by cases hx
  | y :: ys, 0, c, h, _, _ => by simp [we] at h
  | y :: ys, n + 1, c, h, x, hx => by
    simp only [we] at h
    split at h
    · cases h
    rename_i hy
    simp only [List.length_cons] at h
    rcases List.mem_cons.1 hx with rfl | hx
    · omega
    · split at h
      · exact we_mem ys n (c + 1) (by rw [h]; congr 1; omega) x hx
      · exact we_mem ys (n + 2) (c + 1) (by rw [h]; congr 1; omega) x hx

theorem isWord_iff (w : List Int) : isWord w = true ↔ w.length ≤ 40 ∧ we w 1 0 = some w.length := by
  unfold isWord wEnd
  simp only [List.drop_zero, Bool.and_eq_true, decide_eq_true_eq]
  refine and_congr Iff.rfl ?_
  cases h : we w 1 0 with
  | none => simp
  | some e => simp; omega

theorem isWord_len {w : List Int} (h : isWord w = true) : w.length ≤ 40 := ((isWord_iff w).1 h).1

theorem l28Two_eq (s t : List Int) : zz12 s t = some (isWord s && isWord t, ()) := by
  unfold zz12 zz12_s
  rw [l28Good_eq, l28Good_eq, Option.bind_some, Option.bind_some]
  cases isWord s <;> rfl

theorem areWords_eq (s t : List Int) : zz16 s t = some (isWord s && isWord t, ()) := by
  unfold zz16 zz16_s
  rw [implIsWord_eq, implIsWord_eq, Option.bind_some, Option.bind_some]
  cases isWord s <;> rfl

theorem combine_eq (g : Int) (s t : List Int) (h : s.length + t.length ≤ 1000000) : zz30 g s t = some (g :: (s ++ t), ()) := by
  unfold zz30 zz30_s
  rw [appI_ok (by simp; omega), Option.bind_some, appI_ok (by simp; omega), Option.bind_some]
  simp

def combined (g : Int) (s t : List Int) : List Int × Bool × Unit := if isWord s && isWord t && decide (s.length + t.length + 1 ≤ 40) then (g :: (s ++ t), true, ()) else ([], false, ())

theorem combined_eq {g : Int} (s t : List Int) : zz31 g s t = some (combined g s t, ()) := by
  unfold zz31 zz31_s combined
  rw [areWords_eq, Option.bind_some]
  cases h : isWord s && isWord t with
  | false => simp
  | true =>
    simp only [Bool.and_eq_true] at h
    have h1 := isWord_len h.1
    have h2 := isWord_len h.2
    rw [wr (n := (s.length : Int) + (t.length : Int)) (by omega) (by omega), wr (by omega) (by omega)]
    simp only [Bool.not_true, cond_false, Bool.true_and, cd, decide_eq_true_eq]
    by_cases hl : s.length + t.length + 1 ≤ 40
    · rw [if_neg (by omega), if_pos hl, combine_eq g s t (by omega), Option.bind_some]
    · rw [if_pos (by omega), if_neg hl]

theorem implJoin_eq (s t : List Int) : zz35 s t = some (combined (-2) s t, ()) := by
  unfold zz35 zz35_s
  rw [combined_eq]; rfl

theorem implMeet_eq (s t : List Int) : zz32 s t = some (combined (-1) s t, ()) := by
  unfold zz32 zz32_s
  rw [combined_eq]; rfl

def dual1 (x : Int) : Int := if x < 0 then -3 - x else x

theorem implDual_l (N : Nat) (k : List Int → Option (List Int × Unit)) : ∀ (n : Nat) (d : List Int) (i : Nat), d.length - i < n → i ≤ d.length → d.length ≤ 1000000 → (∀ x ∈ d, -2 ≤ x ∧ x < 5) →
    zz28_l3 N k n d (d.length : Int) i = k (d.take i ++ (d.drop i).map dual1)
  | 0, _, _, h, _, _, _ => by omega
  | n + 1, d, i, h, hi, hb, hw => by
    simp only [zz28_l3, zz28_b3]
    by_cases hlt : i < d.length
    · have hx := hw d[i] (List.getElem_mem hlt)
      rw [cdt (by omega), atI_lt d i hlt, Option.bind_some, Int.toNat_natCast, List.getElem?_eq_getElem hlt, Option.bind_some, Option.bind_some, Option.bind_some, wr (n := (i : Int) + 1) (by omega) (by omega), wr (n := (-3 : Int) - d[i]) (by omega) (by omega)]
      rw [show ((i : Int) + 1) = ((i + 1 : Nat) : Int) by omega]
      rw [List.drop_eq_getElem_cons hlt, List.map_cons]
      by_cases hn : d[i] < 0
      · have ih := implDual_l N k n (d.set i (-3 - d[i])) (i + 1) (by simp; omega) (by simp; omega) (by simpa using hb) (fun x hx' => by
          rcases List.mem_or_eq_of_mem_set hx' with h' | h'
          · exact hw x h'
          · omega)
        rw [List.length_set] at ih
        rw [cdt hn, ih, dual1, if_pos hn]
        rw [List.take_succ_eq_append_getElem (by simp; omega), List.take_set, List.set_eq_of_length_le (by simp [Nat.min_le_left]), List.append_assoc, List.getElem_set_self, List.drop_set_of_lt (by omega)]
        rfl
      · have ih := implDual_l N k n d (i + 1) (by omega) (by omega) hb hw
        rw [cdf hn, ih, dual1, if_neg hn, List.take_succ_eq_append_getElem hlt, List.append_assoc]
        rfl
    · rw [cdf (by omega), List.drop_eq_nil_of_le (by omega), List.take_of_length_le (by omega)]
      simp

theorem clone_eq (w : List Int) (h : w.length ≤ 4294967296) : zz27 w = some (w, ()) := by
  unfold zz27 zz27_s
  rw [appI_ok (by simp; omega), Option.bind_some]
  simp

theorem implDual_eq (w : List Int) (hb : w.length ≤ 1000000) (hw : ∀ x ∈ w, -2 ≤ x ∧ x < 5) : zz28 big w = some (w.map dual1, ()) := by
  have hg := big_ge
  unfold zz28 zz28_s zz28_F3
  rw [clone_eq w (by omega), Option.bind_some]
  refine Eq.trans (implDual_l big zz28_a3 big w 0 (by omega) (by omega) hb hw) ?_
  simp [zz28_a3]

theorem isWord_mem {w : List Int} (h : isWord w = true) : ∀ x ∈ w, -2 ≤ x ∧ x < 5 := by
  rw [isWord_iff] at h
  exact we_mem w 1 0 (by rw [h.2]; simp)

def dualV (w : List Int) : List Int × Bool × Unit := if isWord w then (w.map dual1, true, ()) else ([], false, ())

theorem implDualWord_eq (w : List Int) : zz29 w = some (dualV w, ()) := by
  unfold zz29 zz29_s dualV
  rw [implIsWord_eq, Option.bind_some]
  cases h : isWord w with
  | false => rfl
  | true =>
    have := isWord_len h
    simp only [Bool.not_true, cond_false, implDual_eq w (by omega) (isWord_mem h), Option.bind_some, if_true]

def subst (l : Int) (s : List Int) : List Int → List Int
  | [] => []
  | x :: xs => if x = l then s ++ subst l s xs else x :: subst l s xs

theorem we_split : ∀ (xs : List Int) (n m c E : Nat), we xs (n + m) c = some E → ∃ e, we xs n c = some e ∧ c ≤ e ∧ e - c ≤ xs.length ∧ we (xs.drop (e - c)) m e = some E
  | xs, 0, m, c, E, h => ⟨c, we_zero xs c, by omega, by omega, by simpa using h⟩
  | [], n + 1, m, c, E, h => by
    rw [show n + 1 + m = (n + m) + 1 by omega] at h
    simp [we] at h
  | x :: xs, n + 1, m, c, E, h => by
    rw [show n + 1 + m = (n + m) + 1 by omega] at h
    simp only [we] at h ⊢
    split at h
    · cases h
    rename_i hx
    rw [if_neg hx]
    split at h
    · rename_i h0
      obtain ⟨e, h1, h2, h3, h4⟩ := we_split xs n m (c + 1) E h
      rw [if_pos h0]
      refine ⟨e, h1, by omega, by simp; omega, ?_⟩
      rw [show e - c = (e - (c + 1)) + 1 by omega, List.drop_succ_cons]
      exact h4
    · rename_i h0
      rw [show n + m + 2 = (n + 2) + m by omega] at h
      obtain ⟨e, h1, h2, h3, h4⟩ := we_split xs (n + 2) m (c + 1) E h
      rw [if_neg h0]
      refine ⟨e, h1, by omega, by simp; omega, ?_⟩
      rw [show e - c = (e - (c + 1)) + 1 by omega, List.drop_succ_cons]
      exact h4

theorem we_le : ∀ (xs : List Int) (n c e : Nat), we xs n c = some e → c ≤ e
  | xs, 0, c, e, h => by rw [we_zero] at h; cases h; omega
  | [], n + 1, c, e, h => by simp [we] at h
  | x :: xs, n + 1, c, e, h => by
    simp only [we] at h
    split at h
    · cases h
    split at h
    · have := we_le xs n (c + 1) e h; omega
    · have := we_le xs (n + 2) (c + 1) e h; omega

theorem we_take : ∀ (xs : List Int) (n c e : Nat), we xs n c = some e → we (xs.take (e - c)) n c = some e
  | xs, 0, c, e, h => by rw [we_zero] at h ⊢; exact h
  | [], n + 1, c, e, h => by simp [we] at h
  | x :: xs, n + 1, c, e, h => by
    simp only [we] at h
    split at h
    · cases h
    rename_i hx
    split at h
    · rename_i h0
      have h1 := we_le xs n (c + 1) e h
      rw [show e - c = (e - (c + 1)) + 1 by omega, List.take_succ_cons]
      simp only [we]
      rw [if_neg hx, if_pos h0]
      exact we_take xs n (c + 1) e h
    · rename_i h0
      have h1 := we_le xs (n + 2) (c + 1) e h
      rw [show e - c = (e - (c + 1)) + 1 by omega, List.take_succ_cons]
      simp only [we]
      rw [if_neg hx, if_neg h0]
      exact we_take xs (n + 2) (c + 1) e h

theorem we_back {s : List Int} {c : Nat} (h : we s 1 c = some (c + s.length)) : we s 1 0 = some s.length := by
  have := we_shift s 1 0 c
  rw [Nat.zero_add, h] at this
  cases hw : we s 1 0 with
  | none => rw [hw] at this; cases this
  | some e =>
    rw [hw] at this
    simp only [Option.map_some, Option.some.injEq] at this
    congr 1
    omega

theorem parts_eq {x : Int} {xs : List Int} {e : Nat} (hb : xs.length ≤ 1000000) (h : we xs 1 1 = some e) (h2 : e - 1 ≤ xs.length) :
    zz74 (x :: xs) = some ((xs.take (e - 1), xs.drop (e - 1), ()), ()) ∧ zz64 (x :: xs) = some ((xs.take (e - 1), xs.drop (e - 1), ()), ()) := by
  have he := we_le _ _ _ _ h
  have hw : wEnd (x :: xs) 1 = (e : Int) := by
    unfold wEnd
    simp only [List.drop_succ_cons, List.drop_zero, h]
  have s1 : slI (x :: xs) ((1 : Nat) : Int) (e : Int) = some (xs.take (e - 1)) := by
    have := slI_nat (x :: xs) 1 e (by omega) (by simp; omega)
    rw [this]
    simp
  have s2 : slI (x :: xs) (e : Int) ((x :: xs).length : Int) = some (xs.drop (e - 1)) := by
    have := slI_nat (x :: xs) e (x :: xs).length (by simp; omega) (by simp)
    rw [this]
    rw [List.take_of_length_le (by simp)]
    rw [show e = (e - 1) + 1 by omega, List.drop_succ_cons]
    simp
  constructor
  · unfold zz74 zz74_s
    rw [show (1 : Int) = ((1 : Nat) : Int) from rfl, l28End_eq _ 1 (by simp) (by simp; omega), Option.bind_some, hw]
    rw [s1, Option.bind_some, s2, Option.bind_some]
  · unfold zz64 zz64_s
    rw [show (1 : Int) = ((1 : Nat) : Int) from rfl, wordEnd_eq _ 1 (by simp) (by simp; omega), Option.bind_some, hw]
    rw [s1, Option.bind_some, s2, Option.bind_some]

def risingB : List Int → Bool
  | x :: y :: r => decide (x < y) && risingB (y :: r)
  | _ => true

def inB (n : Nat) (x : Int) : Bool := decide (0 ≤ x ∧ x < n)

def isSetB (n : Nat) (s : List Int) : Bool := s.all (inB n) && risingB s

theorem rising_step (l : List Int) (i : Nat) (h : i < l.length) (h1 : 1 ≤ i) : risingB (l.drop (i - 1)) = (decide (l[i - 1] < l[i]) && risingB (l.drop i)) := by
  rw [List.drop_eq_getElem_cons (show i - 1 < l.length by omega), show i - 1 + 1 = i by omega, List.drop_eq_getElem_cons h]
  rfl

theorem rising_end (l : List Int) (i : Nat) (h : l.length ≤ i) (h1 : 1 ≤ i) : risingB (l.drop (i - 1)) = true := by
  by_cases h2 : l.length = i
  · rw [List.drop_eq_getElem_cons (show i - 1 < l.length by omega), List.drop_eq_nil_of_le (by omega)]
    rfl
  · rw [List.drop_eq_nil_of_le (by omega)]
    rfl

theorem specRising_l (N : Nat) {m : Nat} : ∀ (n : Nat) (l : List Int) (i : Nat), l.length - i < n → i ≤ l.length → l.length ≤ 1099511627776 →
    zz68_l2 N zz68_a2 n l 0 ((m : Int) - 1) i = some ((l.drop i).all (inB m) && risingB (l.drop (i - 1)), ())
  | 0, _, _, h, _, _ => by omega
  | n + 1, l, i, h, hi, hb => by
    simp only [zz68_l2, zz68_b2]
    by_cases hlt : i < l.length
    · have e : decide (0 ≤ l[i] ∧ l[i] ≤ (m : Int) - 1) = inB m l[i] := by
        unfold inB; congr 1; exact propext ⟨fun h => ⟨h.1, by omega⟩, fun h => ⟨h.1, by omega⟩⟩
      rw [cdt (by omega), atI_lt l i hlt, Option.bind_some, l1In_eq, Option.bind_some, e, wr (n := (i : Int) + 1) (by omega) (by omega), wr (n := (i : Int) - 1) (by omega) (by omega)]
      rw [show ((i : Int) + 1) = ((i + 1 : Nat) : Int) by omega, specRising_l N n l (i + 1) (by omega) (by omega) hb]
      rw [show i + 1 - 1 = i by omega]
      cases hin : inB m l[i] with
      | false =>
        rw [List.drop_eq_getElem_cons hlt, List.all_cons, hin]
        rfl
      | true =>
        simp only [Bool.not_true, cond_false]
        by_cases h0 : 0 < i
        · rw [cdt (by omega), show ((i : Int) - 1) = ((i - 1 : Nat) : Int) by omega, atI_lt l (i - 1) (by omega), Option.bind_some, Option.bind_some, rising_step l i hlt h0]
          by_cases hle : l[i] ≤ l[i - 1]
          · rw [cdt hle, decide_eq_false (by omega)]
            simp
          · rw [cdf hle, decide_eq_true (show l[i - 1] < l[i] by omega), List.drop_eq_getElem_cons hlt, List.all_cons, hin]
            simp
        · rw [cdf (by omega)]
          have : i = 0 := by omega
          subst this
          rw [show (0 : Nat) - 1 = 0 from rfl, List.drop_eq_getElem_cons hlt, List.all_cons, hin]
          simp
    · rw [cdf (by omega), List.drop_eq_nil_of_le (by omega)]
      by_cases h1 : 1 ≤ i
      · rw [rising_end l i (by omega) h1]; rfl
      · have : l = [] := List.eq_nil_of_length_eq_zero (by omega)
        subst this
        simp [risingB, zz68_a2]

theorem inSize_l (N : Nat) {m : Nat} : ∀ (n : Nat) (l : List Int) (i : Nat), l.length - i < n → i ≤ l.length → l.length ≤ 1099511627776 →
    zz54_l2 N zz54_a2 n (m : Int) l (l.length : Int) i = some ((l.drop i).all (inB m), ())
  | 0, _, _, h, _, _ => by omega
  | n + 1, l, i, h, hi, hb => by
    simp only [zz54_l2, zz54_b2]
    by_cases hlt : i < l.length
    · rw [cdt (by omega), atI_lt l i hlt, Option.bind_some, wr (n := (i : Int) + 1) (by omega) (by omega)]
      rw [show ((i : Int) + 1) = ((i + 1 : Nat) : Int) by omega, inSize_l N n l (i + 1) (by omega) (by omega) hb]
      rw [List.drop_eq_getElem_cons hlt, List.all_cons]
      unfold inB
      by_cases h0 : l[i] < 0
      · rw [cdt h0, decide_eq_false (by omega)]; rfl
      · rw [cdf h0]
        by_cases h1 : (m : Int) ≤ l[i]
        · rw [cdt h1, decide_eq_false (by omega)]; rfl
        · rw [cdf h1, decide_eq_true (by omega)]; rfl
    · rw [cdf (by omega), List.drop_eq_nil_of_le (by omega)]
      rfl

theorem rises_l (N : Nat) : ∀ (n : Nat) (l : List Int) (i : Nat), l.length - i < n → 1 ≤ i → l.length ≤ 1099511627776 → i ≤ 1099511627777 →
    zz53_l2 N zz53_a2 n l i = some (risingB (l.drop (i - 1)), ())
  | 0, _, _, h, _, _, _ => by omega
  | n + 1, l, i, h, hi, hb, hi2 => by
    simp only [zz53_l2, zz53_b2]
    by_cases hlt : i < l.length
    · rw [cdt (by omega), wr (n := (i : Int) - 1) (by omega) (by omega), show ((i : Int) - 1) = ((i - 1 : Nat) : Int) by omega, atI_lt l (i - 1) (by omega), Option.bind_some, atI_lt l i hlt, Option.bind_some, wr (n := (i : Int) + 1) (by omega) (by omega)]
      rw [show ((i : Int) + 1) = ((i + 1 : Nat) : Int) by omega, rises_l N n l (i + 1) (by omega) (by omega) hb (by omega), rising_step l i hlt hi, show i + 1 - 1 = i by omega]
      by_cases hle : l[i] ≤ l[i - 1]
      · rw [cdt hle, decide_eq_false (by omega)]; rfl
      · rw [cdf hle, decide_eq_true (by omega)]; rfl
    · rw [cdf (by omega), rising_end l i (by omega) hi]
      rfl

theorem wr1 {i : Nat} (h : i ≤ 4611686018427387904) : IntKind.i64.wrap ((i : Int) + 1) = ((i + 1 : Nat) : Int) := by rw [wr (by omega) (by omega)]; omega

abbrev PT := List (List Int) × Unit

def pos (n : Nat) (le : Nat → Nat → Bool) : PT := (mkR n fun y => cs (fl n fun x => le x y), ())

def leP (p : PT) (x y : Nat) : Bool := decide ((x : Int) ∈ p.1.getD y [])

structure Ord (n : Nat) (le : Nat → Nat → Bool) : Prop where
  refl : ∀ x, x < n → le x x = true
  anti : ∀ x y, x < n → y < n → x ≠ y → le x y = true → le y x = false
  trans : ∀ x y z, x < n → y < n → z < n → le x y = true → le y z = true → le x z = true

structure Good (p : PT) : Prop where
  len : p.1.length ≤ 10
  rows : ∀ r ∈ p.1, isSetB p.1.length r = true
  ord : Ord p.1.length (leP p)

theorem l1Has_eq (l : List Int) (x : Int) (h : l.length ≤ 4294967296) : zz44 big l x = some (decide (x ∈ l), ()) := by
  unfold zz44 zz44_s
  refine zz44_h2 l.length (fun i => x ∉ l.take i) (by omega) ?_ ?_ 0 (by omega) (by simp)
  · intro rc i hi hv ih
    unfold zz44_b2
    rw [cdt (by omega), atI_lt l i hi, Option.bind_some]
    by_cases hx : l[i] = x
    · rw [cdt hx, decide_eq_true (hx ▸ List.getElem_mem hi)]
    · rw [cdf hx, wr1 (by omega)]
      refine ih fun h => ?_
      rw [List.take_succ_eq_append_getElem hi, List.mem_append, List.mem_singleton] at h
      exact h.elim hv fun e => hx e.symm
  · intro rc hv
    unfold zz44_b2
    rw [cdf (by omega), zz44_a2, decide_eq_false (by simpa using hv)]

theorem l1Has_cs (S : List Nat) (x : Nat) (h : S.length ≤ 4294967296) : zz44 big (cs S) (x : Int) = some (decide (x ∈ S), ()) := by
  rw [l1Has_eq _ _ (by simpa using h)]
  simp only [cs_mem]

theorem l5Within_eq (a b : List Int) (ha : a.length ≤ 4294967296) (hb : b.length ≤ 4294967296) : zz69 big a b = some (tv (∀ x ∈ a, x ∈ b), ()) := by
  unfold zz69 zz69_s
  refine zz69_h2 a.length (fun i => ∀ x ∈ a.take i, x ∈ b) (by omega) ?_ ?_ 0 (by omega) (by simp)
  · intro rc i hi hv ih
    unfold zz69_b2
    rw [cdt (by omega), atI_lt a i hi, Option.bind_some, l1Has_eq _ _ hb, Option.bind_some]
    by_cases hx : a[i] ∈ b
    · rw [decide_eq_true hx, wr1 (by omega)]
      exact ih ((all_take_succ hi).2 ⟨hv, hx⟩)
    · rw [decide_eq_false hx, tv_f fun h => hx (h _ (List.getElem_mem hi))]
      rfl
  · intro rc hv
    unfold zz69_b2
    rw [cdf (by omega), zz69_a2, tv_t (by simpa using hv)]

theorem specRising_eq (n : Nat) (s : List Int) (hn : n ≤ 1099511627776) (hs : s.length ≤ 1099511627775) : zz68 big s 0 ((n : Int) - 1) = some (isSetB n s, ()) := by
  have hb := big_ge
  unfold zz68 zz68_s zz68_F2
  have := specRising_l big (m := n) big s 0 (by omega) (by omega) (by omega)
  rw [show zz68_l2 big zz68_a2 big s 0 ((n : Int) - 1) 0 = _ from this]
  rfl

theorem inSize_eq (n : Nat) (s : List Int) (hs : s.length ≤ 1099511627775) : zz54 big s (n : Int) = some (s.all (inB n), ()) := by
  have hb := big_ge
  unfold zz54 zz54_s zz54_F2
  have h1 := inSize_l big (m := n) big s 0 (by omega) (by omega) (by omega)
  rw [show (0 : Int) = ((0 : Nat) : Int) from rfl, h1]
  rfl

theorem rises_eq (s : List Int) (hs : s.length ≤ 1099511627775) : zz53 big s = some (risingB s, ()) := by
  have hb := big_ge
  unfold zz53 zz53_s zz53_F2
  have h2 := rises_l big big s 1 (by omega) (by omega) (by omega) (by omega)
  rw [show (1 : Int) = ((1 : Nat) : Int) from rfl, h2]
  rfl

theorem rising_pair : ∀ {l : List Int}, risingB l = true → l.Pairwise (· < ·)
  | [], _ => List.Pairwise.nil
  | [x], _ => by simp
  | x :: y :: r, h => by
    simp only [risingB, Bool.and_eq_true, decide_eq_true_eq] at h
    have h2 := rising_pair h.2
    refine List.pairwise_cons.2 ⟨fun z hz => ?_, h2⟩
    rcases List.mem_cons.1 hz with rfl | hz
    · exact h.1
    · have := (List.pairwise_cons.1 h2).1 z hz
      omega

theorem pair_rising : ∀ {l : List Int}, l.Pairwise (· < ·) → risingB l = true
  | [], _ => rfl
  | [x], _ => rfl
  | x :: y :: r, h => by
    have h1 := List.pairwise_cons.1 h
    simp only [risingB, Bool.and_eq_true, decide_eq_true_eq]
    exact ⟨h1.1 y (by simp), pair_rising h1.2⟩

theorem pair_ext : ∀ {l m : List Int}, l.Pairwise (· < ·) → m.Pairwise (· < ·) → (∀ x, x ∈ l ↔ x ∈ m) → l = m
  | [], [], _, _, _ => rfl
  | [], y :: m, _, _, h => by have := (h y).2 (by simp); simp at this
  | x :: l, [], _, _, h => by have := (h x).1 (by simp); simp at this
  | x :: l, y :: m, h1, h2, h => by
    have p1 := List.pairwise_cons.1 h1
    have p2 := List.pairwise_cons.1 h2
    have e : x = y := by
      rcases List.mem_cons.1 ((h x).1 (by simp)) with e | hx
      · exact e
      · rcases List.mem_cons.1 ((h y).2 (by simp)) with e | hy
        · exact e.symm
        · have := p1.1 y hy
          have := p2.1 x hx
          omega
    subst e
    congr 1
    refine pair_ext p1.2 p2.2 fun z => ?_
    constructor
    · intro hz
      rcases List.mem_cons.1 ((h z).1 (List.mem_cons_of_mem _ hz)) with e | hz2
      · have := p1.1 z hz; omega
      · exact hz2
    · intro hz
      rcases List.mem_cons.1 ((h z).2 (List.mem_cons_of_mem _ hz)) with e | hz2
      · have := p2.1 z hz; omega
      · exact hz2

theorem fl_pair (n : Nat) (P : Nat → Bool) : (cs (fl n P)).Pairwise (· < ·) := by
  unfold cs fl
  rw [List.pairwise_map]
  refine List.Pairwise.filter _ ?_
  have := List.pairwise_lt_range (n := n)
  exact this.imp fun h => by omega

theorem setB_form {n : Nat} {l : List Int} (h : isSetB n l = true) : l = cs (fl n fun x => decide ((x : Int) ∈ l)) := by
  unfold isSetB at h
  rw [Bool.and_eq_true] at h
  refine pair_ext (rising_pair h.2) (fl_pair _ _) fun x => ?_
  constructor
  · intro hx
    have h1 := List.all_eq_true.1 h.1 x hx
    unfold inB at h1
    rw [decide_eq_true_eq] at h1
    have e : x = ((x.toNat : Nat) : Int) := by omega
    rw [e, cs_mem, fl_mem]
    refine ⟨by omega, decide_eq_true ?_⟩
    rw [← e]; exact hx
  · intro hx
    unfold cs at hx
    obtain ⟨y, hy, e⟩ := List.mem_map.1 hx
    have := (fl_mem.1 hy).2
    rw [decide_eq_true_eq] at this
    exact e ▸ this

theorem fl_setB (n : Nat) (P : Nat → Bool) : isSetB n (cs (fl n P)) = true := by
  unfold isSetB
  rw [Bool.and_eq_true]
  refine ⟨List.all_eq_true.2 fun x hx => ?_, pair_rising (fl_pair n P)⟩
  unfold cs at hx
  obtain ⟨y, hy, e⟩ := List.mem_map.1 hx
  have := (fl_mem.1 hy).1
  unfold inB
  exact decide_eq_true (by omega)

theorem pos_form {p : PT} (h : ∀ r ∈ p.1, isSetB p.1.length r = true) : p = pos p.1.length (leP p) := by
  unfold pos
  refine Prod.ext ?_ rfl
  refine eq_mkR rfl fun i hi => ?_
  refine (setB_form (h _ (List.getElem_mem hi))).trans ?_
  refine congrArg cs (fl_congr fun x hx => ?_)
  unfold leP
  simp [hi]

theorem pos_len (n : Nat) (le : Nat → Nat → Bool) : (pos n le).1.length = n := mkR_len n _

theorem pos_rows (n : Nat) (le : Nat → Nat → Bool) : ∀ r ∈ (pos n le).1, isSetB (pos n le).1.length r = true := by
  intro r hr
  rw [pos_len]
  obtain ⟨i, _, e⟩ := mkR_mem.1 hr
  exact e ▸ fl_setB _ _

theorem leP_pos {n : Nat} {le : Nat → Nat → Bool} {x y : Nat} (hx : x < n) (hy : y < n) : leP (pos n le) x y = le x y := by
  unfold leP pos
  simp only [List.getD_eq_getElem?_getD, get_mkR hy, Option.getD_some, cs_mem, fl_mem, hx, true_and, Bool.decide_eq_true]

theorem Ord.congr {n : Nat} {le le' : Nat → Nat → Bool} (e : ∀ x y, x < n → y < n → le x y = le' x y) (h : Ord n le) : Ord n le' where
  refl x hx := by rw [← e x x hx hx]; exact h.refl x hx
  anti x y hx hy hxy h1 := by rw [← e y x hy hx]; rw [← e x y hx hy] at h1; exact h.anti x y hx hy hxy h1
  trans x y z hx hy hz h1 h2 := by
    rw [← e x z hx hz]; rw [← e x y hx hy] at h1; rw [← e y z hy hz] at h2
    exact h.trans x y z hx hy hz h1 h2

theorem good_pos {n : Nat} {le : Nat → Nat → Bool} : Good (pos n le) ↔ n ≤ 10 ∧ Ord n le := by
  have e : ∀ x y, x < n → y < n → leP (pos n le) x y = le x y := fun x y hx hy => leP_pos hx hy
  constructor
  · intro h
    have h1 := h.len; have h2 := h.ord
    rw [pos_len] at h1 h2
    exact ⟨h1, h2.congr e⟩
  · intro h
    refine ⟨by rw [pos_len]; exact h.1, pos_rows n le, ?_⟩
    rw [pos_len]
    exact h.2.congr fun x y hx hy => (e x y hx hy).symm

theorem Good.form {p : PT} (h : Good p) : p = pos p.1.length (leP p) := pos_form h.rows

theorem newOrder_eq {n : Nat} (h : n ≤ 4294967296) : zz52 big (n : Int) = some (mkT n fun _ _ => false, ()) := by
  unfold zz52 zz52_s
  rw [mkI_mkR h, Option.bind_some, Option.bind_some, cdt (by omega), mkR_len]
  refine zz52_h3 n (fun i o => o = mkR n fun x => if x < i then mkR n fun _ => false else []) (by omega) ?_ ?_ 0 (by omega) _ (by simp)
  · intro rc i o hi hv ih
    unfold zz52_b3
    rw [cdt (by omega), mkI_mkR h, Option.bind_some, Option.bind_some, cdt (by omega), hv, atI_mkR hi, Option.bind_some, Int.toNat_natCast, get_mkR hi, Option.bind_some, wr1 (by omega)]
    refine ih _ ?_
    rw [mkR_set]
    refine mkR_congr fun x hx => ?_
    by_cases h1 : x = i
    · rw [if_pos h1, if_pos (by omega)]
    · rw [if_neg h1]
      by_cases h2 : x < i
      · rw [if_pos h2, if_pos (by omega)]
      · rw [if_neg h2, if_neg (by omega)]
  · intro rc o hv
    unfold zz52_b3
    rw [cdf (by omega), hv, zz52_a3]
    congr 2
    exact mkR_congr fun x hx => by rw [if_pos hx]

theorem isOrder_eq {n : Nat} {le : Nat → Nat → Bool} (hn : n ≤ 4294967296) : zz55 big (mkT n le) = some (tv (Ord n le), ()) := by
  unfold zz55 zz55_s
  rw [mkR_len]
  refine zz55_h2 n (fun i => ∀ x, x < i → le x x = true ∧ (∀ y, y < n → (x ≠ y → le x y = true → le y x = false) ∧ ∀ z, z < n → le x y = true → le y z = true → le x z = true)) (by omega) ?_ ?_ 0 (by omega) (by intro x hx; omega)
  · intro rc i hi hv ih
    unfold zz55_b2
    rw [cdt (by omega), atI_mkR hi, Option.bind_some, atI_mkR hi, Option.bind_some, mkR_len]
    cases h0 : le i i with
    | false =>
      rw [tv_f fun h => by rw [h.refl i hi] at h0; cases h0]
      rfl
    | true =>
      rw [Bool.not_true, cond_false]
      refine zz55_h7 n (fun j => ∀ y, y < j → (i ≠ y → le i y = true → le y i = false) ∧ ∀ z, z < n → le i y = true → le y z = true → le i z = true) (by omega) ?_ ?_ 0 (by omega) (by intro x hx; omega)
      · intro rc2 j hj hv2 ih2
        have inn : (i ≠ j → le i j = true → le j i = false) → zz55_F12 big rc2 (zz55_a7 rc) (mkT n le) (i : Int) (j : Int) (n : Int) (i : Int) (n : Int) (j : Int) (n : Int) ((0 : Nat) : Int) = some (tv (Ord n le), ()) := by
          intro hij
          refine zz55_h12 n (fun k => ∀ z, z < k → le i j = true → le j z = true → le i z = true) (by omega) ?_ ?_ 0 (by omega) (by intro x hx; omega)
          · intro rc3 k hk hv3 ih3
            unfold zz55_b12
            simp only [cdt (show (k : Int) < (n : Int) by omega), atI_mkR hi, atI_mkR hj, atI_mkR hk, Option.bind_some, wr1 (show k ≤ 4611686018427387904 by omega)]
            cases h1 : le i j with
            | false => exact ih3 (all_lt_succ.2 ⟨hv3, by intro h; rw [h1] at h; cases h⟩)
            | true =>
              cases h2 : le j k with
              | false => exact ih3 (all_lt_succ.2 ⟨hv3, by intro _ h; rw [h2] at h; cases h⟩)
              | true =>
                cases h3 : le i k with
                | false =>
                  rw [tv_f fun h => by rw [h.trans i j k hi hj hk h1 h2] at h3; cases h3]
                  rfl
                | true => exact ih3 (all_lt_succ.2 ⟨hv3, fun _ _ => h3⟩)
          · intro rc3 hv3
            unfold zz55_b12
            rw [cdf (by omega), zz55_a12, wr1 (by omega)]
            exact ih2 (all_lt_succ.2 ⟨hv2, hij, hv3⟩)
        unfold zz55_b7
        rw [cdt (by omega), atI_mkR hi, Option.bind_some, atI_mkR hj, Option.bind_some, atI_mkR hj, Option.bind_some, atI_mkR hi, Option.bind_some, mkR_len]
        by_cases hij : i = j
        · rw [cdf (by omega)]
          exact inn fun h => absurd hij h
        · rw [cdt (by omega)]
          cases h1 : le i j with
          | false => exact inn fun _ h => by rw [h1] at h; cases h
          | true =>
            cases h2 : le j i with
            | false => exact inn fun _ _ => h2
            | true =>
              rw [tv_f fun h => by rw [h.anti i j hi hj hij h1] at h2; cases h2]
              rfl
      · intro rc2 hv2
        unfold zz55_b7
        rw [cdf (by omega), zz55_a7, wr1 (by omega)]
        exact ih (all_lt_succ.2 ⟨hv, h0, hv2⟩)
  · intro rc hv
    unfold zz55_b2
    rw [cdf (by omega), zz55_a2, tv_t]
    exact ⟨fun x hx => (hv x hx).1, fun x y hx hy => ((hv x hx).2 y hy).1, fun x y z hx hy hz => ((hv x hx).2 y hy).2 z hz⟩

theorem mkT_set {α : Type} {n : Nat} {f : Nat → Nat → α} {x y : Nat} {v : α} : (mkT n f).set x ((mkR n (f x)).set y v) = mkT n fun a b => if a = x ∧ b = y then v else f a b := by
  rw [mkR_set]
  refine mkR_congr fun a ha => ?_
  by_cases h : a = x
  · subst h
    rw [if_pos rfl, mkR_set]
    exact mkR_congr fun b hb => by simp
  · rw [if_neg h]
    exact mkR_congr fun b hb => by simp [h]

theorem orderOf_eq (p : PT) (hl : p.1.length ≤ 10) (hx : ∀ r ∈ p.1, r.length ≤ 4294967296) :
    zz56 big p = some (@ite _ (∀ r ∈ p.1, isSetB p.1.length r = true) (Classical.propDecidable _) (mkT p.1.length (leP p), tv (Ord p.1.length (leP p)), ()) ([], false, ()), ()) := by
  unfold zz56 zz56_s
  generalize hn : p.1.length = n
  rw [cdf (by omega), newOrder_eq (by omega), Option.bind_some]
  refine zz56_h6 n (fun i o => (∀ j, j < i → ∀ (h : j < p.1.length), isSetB n p.1[j] = true) ∧ o = mkT n fun a b => decide (b < i) && leP p a b) (by omega) ?_ ?_ 0 (by omega) _ ⟨by intro j hj; omega, mkT_congr fun a b _ _ => by simp⟩
  · intro rc i o hi hv ih
    obtain ⟨hv1, hv2⟩ := hv
    unfold zz56_b6
    have hip : i < p.1.length := by omega
    have hrow := hx _ (List.getElem_mem hip)
    rw [cdt (by omega), atI_lt _ i hip, Option.bind_some, rises_eq _ (by omega), Option.bind_some]
    cases h1 : risingB p.1[i] with
    | false =>
      rw [if_neg fun h => by have := h _ (List.getElem_mem hip); unfold isSetB at this; rw [h1, Bool.and_false] at this; cases this]
      rfl
    | true =>
      rw [Bool.not_true, cond_false, inSize_eq n _ (by omega), Option.bind_some]
      cases h2 : p.1[i].all (inB n) with
      | false =>
        rw [if_neg fun h => by have := h _ (List.getElem_mem hip); unfold isSetB at this; rw [h2, Bool.false_and] at this; cases this]
        rfl
      | true =>
        rw [Bool.not_true, cond_false]
        have hset : isSetB n p.1[i] = true := by unfold isSetB; rw [h1, h2]; rfl
        have hle : ∀ a, leP p a i = decide ((a : Int) ∈ p.1[i]) := by intro a; unfold leP; simp [hip]
        have hform := setB_form hset
        have hS : ∀ a, a ∈ fl n (fun x => decide ((x : Int) ∈ p.1[i])) ↔ a < n ∧ leP p a i = true := by
          intro a; rw [fl_mem, hle]
        generalize fl n (fun x => decide ((x : Int) ∈ p.1[i])) = S at hform hS
        rw [hform, cs_len]
        refine zz56_h11 S.length (fun k o => o = mkT n fun a b => if b < i then leP p a b else decide (b = i ∧ a ∈ S.take k)) ?_ ?_ ?_ 0 (by omega) _ ?_
        · have := congrArg List.length hform
          rw [cs_len] at this
          have := hx _ (List.getElem_mem hip)
          omega
        · intro rc2 k o2 hk hv3 ih2
          have hkn : S[k] < n := ((hS _).1 (List.getElem_mem hk)).1
          have hkS : S.length ≤ 4294967296 := by have := congrArg List.length hform; rw [cs_len] at this; omega
          unfold zz56_b11
          simp only [cdt (show (k : Int) < (S.length : Int) by omega), atI_cs hk, Option.bind_some, hv3, atI_mkR hkn, Int.toNat_natCast, get_mkR hkn, atI_mkR hi, get_mkR hi, wr1 (show k ≤ 4611686018427387904 by omega)]
          refine ih2 _ ?_
          rw [mkT_set]
          refine mkT_congr fun a b _ _ => ?_
          by_cases hb : b < i
          · rw [if_pos hb, if_pos hb, if_neg (by omega)]
          · rw [if_neg hb, if_neg hb]
            simp only [mem_take_succ hk]
            by_cases hbi : b = i
            · by_cases ha : a = S[k]
              · simp [hbi, ha]
              · simp [hbi, ha]
            · simp [hbi]
        · intro rc2 o2 hv3
          unfold zz56_b11
          rw [cdf (by omega), zz56_a11, wr1 (by omega)]
          refine ih _ ⟨fun j hj hjp => ?_, ?_⟩
          · rcases Nat.lt_or_ge j i with h | h
            · exact hv1 j h hjp
            · have : j = i := by omega
              subst this; exact hset
          · rw [hv3]
            refine mkT_congr fun a b ha _ => ?_
            by_cases hb : b < i
            · rw [if_pos hb]; simp [show b < i + 1 by omega]
            · rw [if_neg hb, List.take_length]
              by_cases hbi : b = i
              · subst hbi
                rw [decide_eq_true (show b < b + 1 by omega), Bool.true_and]
                cases h : leP p a b with
                | true => exact decide_eq_true ⟨rfl, (hS a).2 ⟨ha, h⟩⟩
                | false => exact decide_eq_false fun h3 => by rw [((hS a).1 h3.2).2] at h; cases h
              · simp [hbi, show ¬ b < i + 1 by omega]
        · rw [hv2]
          refine mkT_congr fun a b _ _ => ?_
          by_cases hb : b < i
          · simp [hb]
          · simp [hb]
  · intro rc o hv
    obtain ⟨hv1, hv2⟩ := hv
    unfold zz56_b6
    have ho : o = mkT n (leP p) := by rw [hv2]; exact mkT_congr fun a b _ hb => by simp [hb]
    rw [cdf (by omega), zz56_a6, ho, isOrder_eq (by omega), Option.bind_some, if_pos]
    intro r hr
    obtain ⟨j, hj, e⟩ := List.getElem_of_mem hr
    exact e ▸ hv1 j (by omega) hj

theorem orderOf_bad (p : PT) (hl : ¬ p.1.length ≤ 10) : zz56 big p = some (([], false, ()), ()) := by
  unfold zz56 zz56_s
  rw [cdt (by omega)]

theorem orderOf_no (p : PT) (hx : ∀ r ∈ p.1, r.length ≤ 4294967296) (h : ¬ Good p) : ∃ T, zz56 big p = some ((T, false, ()), ()) := by
  by_cases hl : p.1.length ≤ 10
  · rw [orderOf_eq p hl hx]
    by_cases hr : ∀ r ∈ p.1, isSetB p.1.length r = true
    · rw [if_pos hr, tv_f fun ho => h ⟨hl, hr, ho⟩]
      exact ⟨_, rfl⟩
    · rw [if_neg hr]
      exact ⟨_, rfl⟩
  · exact ⟨_, orderOf_bad p hl⟩

theorem orderOf_pos {n : Nat} {le : Nat → Nat → Bool} (hn : n ≤ 10) (ho : Ord n le) : zz56 big (pos n le) = some ((mkT n le, true, ()), ()) := by
  have e : ∀ x y, x < n → y < n → leP (pos n le) x y = le x y := fun x y hx hy => leP_pos hx hy
  rw [orderOf_eq _ (by rw [pos_len]; exact hn) ?_, if_pos (pos_rows n le), pos_len, tv_t (ho.congr fun x y hx hy => (e x y hx hy).symm)]
  · congr 3
    exact mkT_congr fun x y hx hy => e x y hx hy
  · intro r hr
    obtain ⟨i, _, h⟩ := mkR_mem.1 hr
    rw [← h, cs_len]
    have := fl_len n fun x => le x i
    omega

theorem atI_pos {n x : Nat} {le : Nat → Nat → Bool} (hx : x < n) : atI (pos n le).1 (x : Int) = some (cs (fl n fun a => le a x)) := atI_mkR hx

theorem l23Leq_pos {n x y : Nat} {le : Nat → Nat → Bool} (hn : n ≤ 4294967296) (hx : x < n) (hy : y < n) : zz45 (pos n le) (x : Int) (y : Int) = some (le x y, ()) := by
  unfold zz45 zz45_s
  have := fl_len n fun a => le a y
  rw [atI_pos hy, Option.bind_some, l1Has_cs _ _ (by omega), Option.bind_some]
  congr 2
  rw [Bool.eq_iff_iff, decide_eq_true_eq, fl_mem]
  simp [hx]

theorem within_fl {n : Nat} {P Q : Nat → Bool} (hn : n ≤ 4294967296) : zz69 big (cs (fl n P)) (cs (fl n Q)) = some (tv (∀ x, x < n → P x = true → Q x = true), ()) := by
  have h1 := fl_len n P
  have h2 := fl_len n Q
  rw [l5Within_eq _ _ (by rw [cs_len]; omega) (by rw [cs_len]; omega)]
  congr 2
  refine tv_congr ⟨fun h x hx hp => ?_, fun h x hx => ?_⟩
  · exact (fl_mem.1 (cs_mem.1 (h _ (cs_mem.2 (fl_mem.2 ⟨hx, hp⟩))))).2
  · unfold cs at hx
    obtain ⟨y, hy, e⟩ := List.mem_map.1 hx
    have := fl_mem.1 hy
    rw [← e]
    exact cs_mem.2 (fl_mem.2 ⟨this.1, h y this.1 this.2⟩)

theorem specPoset_eq (p : PT) (hx : ∀ r ∈ p.1, r.length ≤ 4294967296) : zz70 big p = some (tv (Good p), ()) := by
  unfold zz70 zz70_s
  by_cases hl : p.1.length ≤ 10
  · generalize hn : p.1.length = n
    rw [cdf (by omega)]
    refine zz70_h5 n (fun i => ∀ j, j < i → ∀ (h : j < p.1.length), isSetB n p.1[j] = true ∧ leP p j j = true) (by omega) ?_ ?_ 0 (by omega) (by intro j hj; omega)
    · intro rc i hi hv ih
      have hip : i < p.1.length := by omega
      have hrow := hx _ (List.getElem_mem hip)
      have hle : ∀ a, leP p a i = decide ((a : Int) ∈ p.1[i]) := by intro a; unfold leP; simp [hip]
      unfold zz70_b5
      rw [cdt (by omega), atI_lt _ i hip, Option.bind_some, wr (by omega) (by omega), specRising_eq n _ (by omega) (by omega), Option.bind_some]
      cases h1 : isSetB n p.1[i] with
      | false =>
        rw [tv_f fun h => by have := h.rows _ (List.getElem_mem hip); rw [hn, h1] at this; cases this]
        rfl
      | true =>
        rw [Bool.not_true, cond_false, Option.bind_some, l1Has_eq _ _ hrow, Option.bind_some, ← hle]
        cases h2 : leP p i i with
        | false =>
          rw [tv_f fun h => by have := h.ord.refl i hip; rw [h2] at this; cases this]
          rfl
        | true =>
          rw [Bool.not_true, cond_false, wr1 (by omega)]
          refine ih fun j hj hjp => ?_
          rcases Nat.lt_or_ge j i with h | h
          · exact hv j h hjp
          · have : j = i := by omega
            subst this; exact ⟨h1, h2⟩
    · intro rc hv
      unfold zz70_b5
      rw [cdf (by omega), zz70_a5]
      have hrows : ∀ r ∈ p.1, isSetB p.1.length r = true := by
        intro r hr
        obtain ⟨j, hj, e⟩ := List.getElem_of_mem hr
        rw [hn]
        exact e ▸ (hv j (by omega) hj).1
      have hform := pos_form hrows
      have hrefl : ∀ x, x < n → leP p x x = true := fun x hxn => (hv x hxn (by omega)).2
      generalize leP p = le at hform hrefl
      rw [hn] at hform
      subst hform
      rw [tv_congr good_pos]
      refine zz70_h10 n (fun i => ∀ x, x < i → ∀ y, y < n → le y x = true → (y ≠ x → le x y = false) ∧ ∀ z, z < n → le z y = true → le z x = true) (by omega) ?_ ?_ 0 (by omega) (by intro j hj; omega)
      · intro rc2 i hi hv2 ih2
        unfold zz70_b10
        rw [cdt (by omega)]
        have hS : ∀ a, a ∈ fl n (fun a => le a i) ↔ a < n ∧ le a i = true := fun a => fl_mem
        have hSl := fl_len n fun a => le a i
        refine zz70_h13 (fl n fun a => le a i).length (fun k => ∀ y ∈ (fl n fun a => le a i).take k, (y ≠ i → le i y = false) ∧ ∀ z, z < n → le z y = true → le z i = true) (by omega) ?_ ?_ 0 (by omega) (by simp)
        · intro rc3 k hk hv3 ih3
          have hk2 := (hS _).1 (List.getElem_mem hk)
          have hk3 := atI_cs hk
          have hk4 : ∀ {P : Nat → Prop}, (∀ y ∈ (fl n fun a => le a i).take (k + 1), P y) ↔ _ := all_take_succ hk
          unfold zz70_b13
          generalize (fl n fun a => le a i)[k] = y at hk2 hk3 hk4
          have hkl := fl_len n fun a => le a y
          simp only [atI_pos hi, Option.bind_some, cs_len, cdt (show (k : Int) < ((fl n fun a => le a i).length : Int) by omega), hk3, atI_pos hk2.1, l1Has_cs (fl n fun a => le a y) i (by omega), within_fl (P := fun a => le a y) (Q := fun a => le a i) (show n ≤ 4294967296 by omega), wr1 (show k ≤ 4611686018427387904 by omega)]
          have e1 : decide (i ∈ fl n fun a => le a y) = le i y := by
            rw [Bool.eq_iff_iff, decide_eq_true_eq, fl_mem]; simp [hi]
          rw [e1]
          have key : (y ≠ i → le i y = false) → cond (!tv (∀ x, x < n → le x y = true → le x i = true)) (some (false, ())) (rc3 (pos n le) (n : Int) (i : Int) ((k + 1 : Nat) : Int)) = some (tv (n ≤ 10 ∧ Ord n le), ()) := by
            intro h1
            by_cases h2 : ∀ x, x < n → le x y = true → le x i = true
            · rw [tv_t h2]
              exact ih3 (hk4.2 ⟨hv3, h1, h2⟩)
            · rw [tv_f h2, tv_f fun h => h2 fun x hxn h3 => h.2.trans _ _ _ hxn hk2.1 hi h3 hk2.2]
              rfl
          by_cases h1 : y = i
          · rw [cdf (by omega)]
            exact key fun h => absurd h1 h
          · rw [cdt (by omega)]
            cases h2 : le i y with
            | true =>
              rw [tv_f (P := n ≤ 10 ∧ Ord n le) fun h => by rw [h.2.anti _ _ hk2.1 hi h1 hk2.2] at h2; cases h2]
              rfl
            | false =>
              rw [cond_false]
              exact key fun _ => h2
        · intro rc3 hv3
          rw [List.take_length] at hv3
          unfold zz70_b13
          rw [atI_pos hi, Option.bind_some, cs_len, cdf (by omega), zz70_a13, wr1 (by omega)]
          exact ih2 (all_lt_succ.2 ⟨hv2, fun y hy hyi => hv3 y ((hS y).2 ⟨hy, hyi⟩)⟩)
      · intro rc2 hv2
        unfold zz70_b10
        rw [cdf (by omega), zz70_a10, tv_t]
        refine ⟨by rw [pos_len] at hl; exact hl, fun x hx => hrefl x hx, fun x y hx hy hxy h => ((hv2 y hy x hx h).1 hxy), fun x y z hx hy hz h1 h2 => (hv2 z hz y hy h2).2 x hx h1⟩
  · rw [cdt (by omega), tv_f fun h => hl h.len]

abbrev du (le : Nat → Nat → Bool) : Nat → Nat → Bool := fun x y => le y x

def low (n : Nat) (le : Nat → Nat → Bool) (S : List Nat) : List Nat := fl n fun z => S.all fun s => le z s

def grt (le : Nat → Nat → Bool) (L : List Nat) : Int := match L.find? fun x => L.all fun y => le y x with
  | some x => (x : Int)
  | none => -1

def bnd (n : Nat) (le : Nat → Nat → Bool) (S : List Nat) : Int := grt le (low n le S)

structure IsGlb (n : Nat) (le : Nat → Nat → Bool) (S : List Nat) (m : Nat) : Prop where
  lt : m < n
  lo : ∀ s ∈ S, le m s = true
  gr : ∀ z, z < n → (∀ s ∈ S, le z s = true) → le z m = true

theorem low_mem {n : Nat} {le : Nat → Nat → Bool} {S : List Nat} {z : Nat} : z ∈ low n le S ↔ z < n ∧ ∀ s ∈ S, le z s = true := by
  unfold low
  rw [fl_mem, List.all_eq_true]

theorem glb_of_bnd {n : Nat} {le : Nat → Nat → Bool} {S : List Nat} (h : 0 ≤ bnd n le S) : IsGlb n le S (bnd n le S).toNat := by
  unfold bnd grt at *
  cases hf : (low n le S).find? fun x => (low n le S).all fun y => le y x with
  | none => rw [hf] at h; exact absurd h (by decide)
  | some x =>
    have h1 := List.find?_some hf
    have h2 := low_mem.1 (List.mem_of_find?_eq_some hf)
    simp only [Int.toNat_natCast]
    exact ⟨h2.1, h2.2, fun z hz hs => List.all_eq_true.1 h1 z (low_mem.2 ⟨hz, hs⟩)⟩

theorem glb_unique {n : Nat} {le : Nat → Nat → Bool} (ho : Ord n le) {S : List Nat} {m k : Nat} (h : IsGlb n le S m) (h2 : IsGlb n le S k) : m = k := by
  by_cases e : m = k
  · exact e
  · have h3 := h.gr k h2.lt h2.lo
    have h4 := h2.gr m h.lt h.lo
    have := ho.anti m k h.lt h2.lt e h4
    rw [this] at h3; cases h3

theorem bnd_of_glb {n : Nat} {le : Nat → Nat → Bool} (ho : Ord n le) {S : List Nat} {m : Nat} (h : IsGlb n le S m) : bnd n le S = (m : Int) := by
  have h0 : 0 ≤ bnd n le S := by
    unfold bnd grt
    cases hf : (low n le S).find? fun x => (low n le S).all fun y => le y x with
    | none =>
      have := List.find?_eq_none.1 hf m (low_mem.2 ⟨h.lt, h.lo⟩)
      exact absurd (List.all_eq_true.2 fun y hy => h.gr y (low_mem.1 hy).1 (low_mem.1 hy).2) this
    | some x => simp
  have := glb_unique ho (glb_of_bnd h0) h
  omega

theorem greatest_eq {n : Nat} {le : Nat → Nat → Bool} {L : List Nat} (hL : ∀ x ∈ L, x < n) (hl : L.length ≤ 4294967296) : zz57 big (mkT n le) (cs L) = some (grt le L, ()) := by
  unfold zz57 zz57_s
  rw [cs_len]
  refine zz57_h2 L.length (fun i => ∀ x ∈ L.take i, ¬ (L.all fun y => le y x) = true) (by omega) ?_ ?_ 0 (by omega) (by simp)
  · intro rc i hi hv ih
    have hx := hL _ (List.getElem_mem hi)
    have hh := @find_hit _ L (fun x => L.all fun y => le y x) i hi hv
    have hn := fun h => ih ((all_take_succ hi).2 ⟨hv, h⟩)
    unfold zz57_b2
    rw [cdt (by omega), atI_cs hi, Option.bind_some, cs_len]
    generalize L[i] = x at hx hh hn
    refine zz57_h6 L.length (fun k b => b = (L.take k).all fun y => le y x) (by omega) ?_ ?_ 0 (by omega) _ rfl
    · intro rc2 k b hk hb ih2
      have hy := hL _ (List.getElem_mem hk)
      have ht := @all_take _ L k hk fun y => le y x
      have ha := atI_cs hk
      unfold zz57_b6
      rw [cdt (by omega), ha, Option.bind_some, wr1 (by omega)]
      generalize L[k] = y at hy ht
      cases b with
      | false => exact ih2 _ (by rw [ht, ← hb]; rfl)
      | true =>
        rw [cond_true, atI_mkR hy, Option.bind_some, atI_mkR hx, Option.bind_some]
        exact ih2 _ (by rw [ht, ← hb]; rfl)
    · intro rc2 b hb
      rw [List.take_length] at hb
      unfold zz57_b6
      rw [cdf (by omega), zz57_a6, hb]
      cases h : L.all fun y => le y x with
      | true =>
        rw [cond_true]
        unfold grt
        rw [hh h]
      | false =>
        rw [cond_false, wr1 (by omega)]
        exact hn (by rw [h]; simp)
  · intro rc hv
    rw [List.take_length] at hv
    unfold zz57_b2
    rw [cdf (by omega), zz57_a2]
    unfold grt
    rw [List.find?_eq_none.2 hv]

theorem low2 {n : Nat} {le : Nat → Nat → Bool} {x y : Nat} : low n le [x, y] = fl n fun z => le z x && le z y := by
  unfold low
  congr 1; funext z; simp

theorem those_meet {n : Nat} {le : Nat → Nat → Bool} (hn : n ≤ 1048576) {x y : Nat} (hx : x < n) (hy : y < n) : zz59 big (mkT n le) (mkT n le, (x : Int), (y : Int), ()) = some (cs (low n le [x, y]), ()) := by
  unfold zz59 zz59_s
  rw [mkR_len, low2]
  refine zz59_h3 n (fun i l => l = cs (fl i fun z => le z x && le z y)) (by omega) ?_ ?_ 0 (by omega) _ rfl
  · intro rc i l hi hv ih
    have hl := fl_len i fun z => le z x && le z y
    unfold zz59_b3 zz58 zz58_s
    simp only [cdt (show (i : Int) < (n : Int) by omega), atI_mkR hi, atI_mkR hx, atI_mkR hy, Option.bind_some, wr1 (show i ≤ 4611686018427387904 by omega)]
    cases h1 : le i x with
    | false => exact ih _ (by rw [hv]; exact fl_f (P := fun z => le z x && le z y) (by simp [h1]))
    | true =>
      simp only [cond_true, Option.bind_some]
      cases h2 : le i y with
      | false => exact ih _ (by rw [hv]; exact fl_f (P := fun z => le z x && le z y) (by simp [h1, h2]))
      | true =>
        rw [cond_true, app1 (by rw [hv, cs_len]; omega), Option.bind_some]
        exact ih _ (by rw [hv]; exact fl_t (P := fun z => le z x && le z y) (by simp [h1, h2]))
  · intro rc l hv
    unfold zz59_b3
    rw [cdf (by omega), zz59_a3, hv]

theorem low_lt {n : Nat} {le : Nat → Nat → Bool} {S : List Nat} : ∀ x ∈ low n le S, x < n := fun x hx => (low_mem.1 hx).1

theorem low_len {n : Nat} {le : Nat → Nat → Bool} {S : List Nat} : (low n le S).length ≤ n := fl_len _ _

theorem meetTable_eq {n : Nat} {le : Nat → Nat → Bool} (hn : n ≤ 1048576) : zz60 big (mkT n le) = some (@ite _ (∀ x y, x < n → y < n → 0 ≤ bnd n le [x, y]) (Classical.propDecidable _) (mkT n fun x y => bnd n le [x, y], true, ()) ([], false, ()), ()) := by
  unfold zz60 zz60_s
  rw [mkR_len]
  refine zz60_h3 n (fun i t => t = (mkR i fun x => mkR n fun y => bnd n le [x, y]) ∧ ∀ x, x < i → ∀ y, y < n → 0 ≤ bnd n le [x, y]) (by omega) ?_ ?_ 0 (by omega) _ ⟨rfl, by intro x hx; omega⟩
  · intro rc i t hi hv ih
    unfold zz60_b3
    rw [cdt (by omega), mkR_len]
    refine zz60_h7 n (fun j r => r = (mkR j fun y => bnd n le [i, y]) ∧ ∀ y, y < j → 0 ≤ bnd n le [i, y]) (by omega) ?_ ?_ 0 (by omega) _ ⟨rfl, by intro x hx; omega⟩
    · intro rc2 j r hj hr ih2
      unfold zz60_b7
      rw [cdt (by omega), those_meet hn hi hj, Option.bind_some, greatest_eq low_lt (by have := @low_len n le [i, j]; omega), Option.bind_some]
      show cond (decide (bnd n le [i, j] < 0)) _ ((appI r [bnd n le [i, j]]).bind _) = _
      by_cases h : 0 ≤ bnd n le [i, j]
      · rw [cdf (by omega), app1 (by rw [hr.1, mkR_len]; omega), Option.bind_some, wr1 (by omega)]
        exact ih2 _ ⟨by rw [hr.1]; exact (mkR_succ j _).symm, all_lt_succ.2 ⟨hr.2, h⟩⟩
      · rw [cdt (by omega), if_neg fun h2 => h (h2 i j hi hj)]
    · intro rc2 r hr
      unfold zz60_b7
      rw [cdf (by omega), zz60_a7, app1 (by rw [hv.1, mkR_len]; omega), Option.bind_some, wr1 (by omega)]
      refine ih _ ⟨?_, all_lt_succ.2 ⟨hv.2, hr.2⟩⟩
      rw [hv.1, hr.1]
      exact (mkR_succ i fun x => mkR n fun y => bnd n le [x, y]).symm
  · intro rc t hv
    unfold zz60_b3
    rw [cdf (by omega), zz60_a3, if_pos fun x y hx hy => hv.2 x hx y hy, hv.1]

theorem dual_eq {n : Nat} {le : Nat → Nat → Bool} (hn : n ≤ 1048576) : zz61 big (mkT n le) = some (mkT n (du le), ()) := by
  unfold zz61 zz61_s
  rw [mkR_len, newOrder_eq (by omega), Option.bind_some]
  refine zz61_h3 n (fun i d => d = mkT n fun a b => decide (a < i) && le b a) (by omega) ?_ ?_ 0 (by omega) _ (mkT_congr fun a b _ _ => by simp)
  · intro rc i d hi hv ih
    unfold zz61_b3
    rw [cdt (by omega), mkR_len]
    refine zz61_h6 n (fun j d => d = mkT n fun a b => (decide (a < i) || decide (a = i) && decide (b < j)) && le b a) (by omega) ?_ ?_ 0 (by omega) _ (by rw [hv]; exact mkT_congr fun a b _ _ => by simp)
    · intro rc2 j d2 hj hv2 ih2
      unfold zz61_b6
      generalize hf : (fun a b => (decide (a < i) || decide (a = i) && decide (b < j)) && le b a) = f at hv2
      simp only [cdt (show (j : Int) < (n : Int) by omega), hv2, atI_mkR hi, get_mkR hi, Option.bind_some, atI_mkR hj, get_mkR hj, Int.toNat_natCast, wr1 (show j ≤ 4611686018427387904 by omega)]
      refine ih2 _ ?_
      rw [mkT_set, ← hf]
      refine mkT_congr fun a b _ _ => ?_
      by_cases h1 : a = i
      · subst h1
        by_cases h2 : b = j
        · subst h2; simp
        · rw [if_neg fun h => h2 h.2, show decide (b < j + 1) = decide (b < j) from decide_eq_decide.2 (by omega)]
      · rw [if_neg fun h => h1 h.1]; simp [h1]
    · intro rc2 d2 hv2
      unfold zz61_b6
      rw [cdf (by omega), zz61_a6, wr1 (by omega)]
      refine ih _ ?_
      rw [hv2]
      refine mkT_congr fun a b _ hb => ?_
      congr 1
      rw [decide_eq_true hb, Bool.and_true, ← Bool.decide_or]
      exact decide_eq_decide.2 (by omega)
  · intro rc d hv
    unfold zz61_b3
    rw [cdf (by omega), zz61_a3, hv]
    congr 2
    exact mkT_congr fun a b ha _ => by simp [ha]

structure Lat (n : Nat) (le : Nat → Nat → Bool) : Prop where
  ne : 0 < n
  meet : ∀ x y, x < n → y < n → 0 ≤ bnd n le [x, y]
  join : ∀ x y, x < n → y < n → 0 ≤ bnd n (du le) [x, y]

def mt (n : Nat) (le : Nat → Nat → Bool) (x y : Nat) : Nat := (bnd n le [x, y]).toNat

def gb (n : Nat) (le : Nat → Nat → Bool) (S : List Nat) : Nat := (bnd n le S).toNat

def lat (n : Nat) (le : Nat → Nat → Bool) : List (List Bool) × List (List Int) × List (List Int) × Unit :=
  (mkT n le, mkT n (fun x y => ((mt n le x y : Nat) : Int)), mkT n (fun x y => ((mt n (du le) x y : Nat) : Int)), ())

structure LatP (n : Nat) (le : Nat → Nat → Bool) : Prop where
  le10 : n ≤ 10
  ord : Ord n le
  lat : Lat n le

theorem latticeOf_pos {n : Nat} {le : Nat → Nat → Bool} (h : LatP n le) : zz62 (pos n le) = some ((some (lat n le), true, ()), ()) := by
  have h10 := h.le10
  have h0 := h.lat.ne
  unfold zz62 zz62_s
  simp only [orderOf_pos h.le10 h.ord, Option.bind_some, Bool.not_true, cond_false, mkR_len, cdf (show ¬ ((n : Int) = 0) by omega), meetTable_eq (le := le) (show n ≤ 1048576 by omega), dual_eq (le := le) (show n ≤ 1048576 by omega), meetTable_eq (le := du le) (show n ≤ 1048576 by omega)]
  rw [if_pos h.lat.meet, if_pos h.lat.join]
  simp only [cond_true]
  have e1 : (mkT n fun x y => bnd n le [x, y]) = mkT n fun x y => ((mt n le x y : Nat) : Int) := mkT_congr fun x y hx hy => by
    have := h.lat.meet x y hx hy
    unfold mt; omega
  have e2 : (mkT n fun x y => bnd n (du le) [x, y]) = mkT n fun x y => ((mt n (du le) x y : Nat) : Int) := mkT_congr fun x y hx hy => by
    have := h.lat.join x y hx hy
    unfold mt; omega
  rw [e1, e2]
  rfl

theorem latticeOf_no {p : PT} (hx : ∀ r ∈ p.1, r.length ≤ 4294967296) (h : ¬ (Good p ∧ Lat p.1.length (leP p))) : ∃ l, zz62 p = some ((l, false, ()), ()) := by
  by_cases hg : Good p
  · have hf := hg.form
    have ho := hg.ord
    have h10 := hg.len
    replace h : ¬ Lat p.1.length (leP p) := fun hl => h ⟨hg, hl⟩
    generalize p.1.length = n at *
    generalize leP p = le at *
    subst hf
    unfold zz62 zz62_s
    simp only [orderOf_pos h10 ho, Option.bind_some, Bool.not_true, cond_false, mkR_len, meetTable_eq (le := le) (show n ≤ 1048576 by omega), dual_eq (le := le) (show n ≤ 1048576 by omega), meetTable_eq (le := du le) (show n ≤ 1048576 by omega)]
    by_cases h0 : n = 0
    · rw [cdt (by omega)]
      exact ⟨_, rfl⟩
    · rw [cdf (by omega)]
      by_cases h1 : ∀ x y, x < n → y < n → 0 ≤ bnd n le [x, y]
      · rw [if_pos h1]
        by_cases h2 : ∀ x y, x < n → y < n → 0 ≤ bnd n (du le) [x, y]
        · exact absurd ⟨by omega, h1, h2⟩ h
        · rw [if_neg h2]
          exact ⟨_, rfl⟩
      · rw [if_neg h1]
        exact ⟨_, rfl⟩
  · obtain ⟨T, hT⟩ := orderOf_no p hx hg
    unfold zz62 zz62_s
    rw [hT, Option.bind_some]
    exact ⟨_, rfl⟩

theorem specDual_pos {n : Nat} {le : Nat → Nat → Bool} (hn : n ≤ 1048576) : zz71 big (pos n le) = some (pos n (du le), ()) := by
  unfold zz71 zz71_s
  refine zz71_h3 n (fun i o => o.1 = mkR i fun y => cs (fl n fun x => le y x)) (by omega) ?_ ?_ 0 (by omega) _ rfl
  · intro rc i o hi hv ih
    unfold zz71_b3
    rw [pos_len, cdt (by omega)]
    refine zz71_h7 n (fun j l => l = cs (fl j fun x => le i x)) (by omega) ?_ ?_ 0 (by omega) _ rfl
    · intro rc2 j l hj hl ih2
      have hlen := fl_len j fun x => le i x
      unfold zz71_b7
      rw [pos_len, cdt (by omega), l23Leq_pos (by omega) hi hj, Option.bind_some, wr1 (by omega)]
      cases h : le i j with
      | true =>
        rw [cond_true, app1 (by rw [hl, cs_len]; omega), Option.bind_some]
        exact ih2 _ (by rw [hl]; exact fl_t (P := fun x => le i x) h)
      | false => exact ih2 _ (by rw [hl]; exact fl_f (P := fun x => le i x) h)
    · intro rc2 l hl
      unfold zz71_b7
      rw [pos_len, cdf (by omega), zz71_a7, app1 (by rw [hv, mkR_len]; omega), Option.bind_some, wr1 (by omega)]
      exact ih _ (by rw [hl]; show o.1 ++ _ = _; rw [hv]; exact (mkR_succ i fun y => cs (fl n fun x => le y x)).symm)
  · intro rc o hv
    unfold zz71_b3
    rw [pos_len, cdf (by omega), zz71_a3]
    unfold pos
    congr 2
    exact Prod.ext hv rfl

theorem specBound_pos {n : Nat} {le : Nat → Nat → Bool} (hn : n ≤ 1048576) {S : List Nat} (hS : ∀ s ∈ S, s < n) (hSl : S.length ≤ 4294967296) : zz72 big (pos n le) (cs S) = some (bnd n le S, ()) := by
  unfold zz72 zz72_s
  refine zz72_h3 n (fun i l => l = cs (fl i fun z => S.all fun s => le z s)) (by omega) ?_ ?_ 0 (by omega) _ rfl
  · intro rc i l hi hv ih
    have hlen := fl_len i fun z => S.all fun s => le z s
    unfold zz72_b3
    rw [pos_len, cdt (by omega)]
    refine zz72_h7 S.length (fun k b => b = (S.take k).all fun s => le i s) (by omega) ?_ ?_ 0 (by omega) _ rfl
    · intro rc2 k b hk hb ih2
      have hs := hS _ (List.getElem_mem hk)
      have ht := @all_take _ S k hk fun s => le i s
      have ha := atI_cs hk
      unfold zz72_b7
      rw [cs_len, cdt (by omega), ha, Option.bind_some, wr1 (by omega)]
      generalize S[k] = s at hs ht
      rw [l23Leq_pos (by omega) hi hs, Option.bind_some]
      cases b with
      | true => exact ih2 _ (by rw [ht, ← hb]; rfl)
      | false => exact ih2 _ (by rw [ht, ← hb]; rfl)
    · intro rc2 b hb
      rw [List.take_length] at hb
      unfold zz72_b7
      rw [cs_len, cdf (by omega), zz72_a7, wr1 (by omega)]
      cases b with
      | true =>
        rw [cond_true, app1 (by rw [hv, cs_len]; omega), Option.bind_some]
        exact ih _ (by rw [hv]; exact fl_t (P := fun z => S.all fun s => le z s) hb.symm)
      | false => exact ih _ (by rw [hv]; exact fl_f (P := fun z => S.all fun s => le z s) hb.symm)
  · intro rc l hv
    unfold zz72_b3
    rw [pos_len, cdf (by omega), zz72_a3]
    replace hv : l = cs (low n le S) := hv
    rw [hv]
    have hll := @low_len n le S
    unfold bnd
    have hlt := @low_lt n le S
    have hfl : low n le S = fl n fun z => S.all fun s => le z s := rfl
    have hw : ∀ x, x < n → zz69 big (cs (low n le S)) (cs (fl n fun a => le a x)) = some ((low n le S).all fun y => le y x, ()) := by
      intro x hx
      rw [hfl, within_fl (by omega), ← hfl]
      congr 2
      exact tv_eq (by rw [List.all_eq_true]; exact ⟨fun h y hy hp => h y (fl_mem.2 ⟨hy, hp⟩), fun h y hy => h y (fl_mem.1 hy).1 (fl_mem.1 hy).2⟩)
    generalize low n le S = L at *
    refine zz72_h13 L.length (fun i => ∀ x ∈ L.take i, ¬ (L.all fun y => le y x) = true) (by omega) ?_ ?_ 0 (by omega) (by simp)
    · intro rc2 i hi hv2 ih2
      have hx := hlt _ (List.getElem_mem hi)
      have hh := @find_hit _ L (fun x => L.all fun y => le y x) i hi hv2
      have hn2 := fun h => ih2 ((all_take_succ hi).2 ⟨hv2, h⟩)
      have ha := atI_cs hi
      have hg := get_cs hi
      unfold zz72_b13
      simp only [cs_len, cdt (show (i : Int) < (L.length : Int) by omega), ha, Option.bind_some, Int.toNat_natCast, hg, wr1 (show i ≤ 4611686018427387904 by omega)]
      generalize L[i] = x at hx hh hn2
      rw [atI_pos hx, Option.bind_some, hw x hx, Option.bind_some]
      cases h : L.all fun y => le y x with
      | true =>
        rw [cond_true]
        unfold grt
        rw [hh h]
      | false =>
        rw [cond_false]
        exact hn2 (by rw [h]; simp)
    · intro rc2 hv2
      rw [List.take_length] at hv2
      unfold zz72_b13
      rw [cs_len, cdf (by omega), zz72_a13]
      unfold grt
      rw [List.find?_eq_none.2 hv2]

theorem bnd_swap {n : Nat} {le : Nat → Nat → Bool} (x y : Nat) : bnd n le [x, y] = bnd n le [y, x] := by
  unfold bnd
  congr 1
  unfold low
  congr 1; funext z; simp [Bool.and_comm]

theorem Ord.du {n : Nat} {le : Nat → Nat → Bool} (h : Ord n le) : Ord n (du le) where
  refl := h.refl
  anti x y hx hy hxy h1 := by
    have h3 : le y x = true := h1
    show le x y = false
    by_cases h2 : le x y = true
    · rw [h.anti x y hx hy hxy h2] at h3; cases h3
    · simpa using h2
  trans x y z hx hy hz h1 h2 := h.trans z y x hz hy hx h2 h1

theorem bnd_self {n : Nat} {le : Nat → Nat → Bool} (ho : Ord n le) {x : Nat} (hx : x < n) : bnd n le [x, x] = (x : Int) :=
  bnd_of_glb ho ⟨hx, by simp [ho.refl x hx], fun z _ h => h x (by simp)⟩

theorem spec24_eq (p : PT) (hx : ∀ r ∈ p.1, r.length ≤ 4294967296) : zz73 big p = some (tv (Good p ∧ Lat p.1.length (leP p)), ()) := by
  unfold zz73 zz73_s
  rw [specPoset_eq p hx, Option.bind_some]
  by_cases hg : Good p
  · rw [tv_t hg]
    have e : (Good p ∧ Lat p.1.length (leP p)) ↔ Lat p.1.length (leP p) := ⟨fun h => h.2, fun h => ⟨hg, h⟩⟩
    rw [tv_congr e, Bool.not_true, cond_false]
    have hf := hg.form
    have ho := hg.ord
    have h10 := hg.len
    clear e hg hx
    generalize p.1.length = n at *
    generalize leP p = le at *
    subst hf
    by_cases h0 : n = 0
    · rw [cdt (by omega), tv_f fun h => by have := h.ne; omega]
    · rw [cdf (by omega), specDual_pos (by omega), Option.bind_some]
      have key : ∀ x y, x < n → y < n → (0 ≤ bnd n le [x, y] ↔ 0 ≤ bnd n le [y, x]) := fun x y _ _ => by rw [bnd_swap]
      refine zz73_h5 n (fun i => ∀ x, x < i → ∀ y, y < x → 0 ≤ bnd n le [x, y] ∧ 0 ≤ bnd n (du le) [x, y]) (by omega) ?_ ?_ 0 (by omega) (by intro x hx; omega)
      · intro rc i hi hv ih
        unfold zz73_b5
        rw [pos_len, cdt (by omega)]
        refine zz73_h8 i (fun j => ∀ y, y < j → 0 ≤ bnd n le [i, y] ∧ 0 ≤ bnd n (du le) [i, y]) (by omega) ?_ ?_ 0 (by omega) (by intro x hx; omega)
        · intro rc2 j hj hv2 ih2
          unfold zz73_b8
          have e : ([(i : Int), (j : Int)] : List Int) = cs [i, j] := rfl
          have hS : ∀ s ∈ [i, j], s < n := by intro s hs; simp at hs; omega
          rw [cdt (by omega), e, specBound_pos (by omega) hS (by simp), Option.bind_some, specBound_pos (le := du le) (by omega) hS (by simp), Option.bind_some]
          by_cases h1 : 0 ≤ bnd n le [i, j]
          · rw [cdf (by omega)]
            by_cases h2 : 0 ≤ bnd n (du le) [i, j]
            · rw [cdf (by omega), wr1 (by omega)]
              exact ih2 (all_lt_succ.2 ⟨hv2, h1, h2⟩)
            · rw [cdt (by omega), tv_f fun h => h2 (h.join i j hi (by omega))]
          · rw [cdt (by omega), tv_f fun h => h1 (h.meet i j hi (by omega))]
        · intro rc2 hv2
          unfold zz73_b8
          rw [cdf (by omega), zz73_a8, wr1 (by omega)]
          exact ih (all_lt_succ.2 ⟨hv, hv2⟩)
      · intro rc hv
        unfold zz73_b5
        rw [pos_len, cdf (by omega), zz73_a5, tv_t]
        refine ⟨by omega, fun x y hx hy => ?_, fun x y hx hy => ?_⟩
        · rcases Nat.lt_trichotomy x y with h | h | h
          · rw [bnd_swap]; exact (hv y hy x h).1
          · subst h; rw [bnd_self ho hx]; omega
          · exact (hv x hx y h).1
        · rcases Nat.lt_trichotomy x y with h | h | h
          · rw [bnd_swap]; exact (hv y hy x h).2
          · subst h; rw [bnd_self ho.du hx]; omega
          · exact (hv x hx y h).2
  · rw [tv_f hg, tv_f fun h => hg h.1]
    rfl

theorem lat_cases {p : PT} (hx : ∀ r ∈ p.1, r.length ≤ 4294967296) : (∃ n le, p = pos n le ∧ LatP n le ∧ zz73 big p = some (true, ()) ∧ zz62 p = some ((some (lat n le), true, ()), ())) ∨
    (zz73 big p = some (false, ()) ∧ ∃ l, zz62 p = some ((l, false, ()), ())) := by
  by_cases h : Good p ∧ Lat p.1.length (leP p)
  · have hl : LatP p.1.length (leP p) := ⟨h.1.len, h.1.ord, h.2⟩
    refine .inl ⟨p.1.length, leP p, h.1.form, hl, by rw [spec24_eq p hx, tv_t h], ?_⟩
    have := latticeOf_pos hl
    rw [← h.1.form] at this
    exact this
  · exact .inr ⟨by rw [spec24_eq p hx, tv_f h], latticeOf_no hx h⟩

def SmallP (p : PT) : Prop := p.1.length ≤ 1048576 ∧ ∀ r ∈ p.1, r.length ≤ 1048576

theorem SmallP.rows {p : PT} (h : SmallP p) : ∀ r ∈ p.1, r.length ≤ 4294967296 := fun r hr => by have := h.2 r hr; omega

def ls (le : Nat → Nat → Bool) (x y : Nat) : Bool := decide (x ≠ y) && le x y

theorem has_eq {n : Nat} {le : Nat → Nat → Bool} (s : List Int) (h : s.length ≤ 4294967296) : zz63 (mkT n le) s = some (s.all (inB n), ()) := by
  unfold zz63 zz63_s
  rw [mkR_len, inSize_eq n s (by omega)]; rfl

theorem inB_form {n : Nat} {x : Int} (h : inB n x = true) : ∃ k : Nat, k < n ∧ x = (k : Int) := by
  unfold inB at h
  rw [decide_eq_true_eq] at h
  exact ⟨x.toNat, by omega, by omega⟩

theorem allB_form {n : Nat} : ∀ {s : List Int}, s.all (inB n) = true → ∃ S : List Nat, s = cs S ∧ ∀ x ∈ S, x < n
  | [], _ => ⟨[], rfl, by simp⟩
  | x :: s, h => by
    rw [List.all_cons, Bool.and_eq_true] at h
    obtain ⟨k, hk, e⟩ := inB_form h.1
    obtain ⟨S, hS, h2⟩ := allB_form h.2
    exact ⟨k :: S, by rw [hS, e]; rfl, by simpa using ⟨hk, h2⟩⟩

theorem LatP.du {n : Nat} {le : Nat → Nat → Bool} (h : LatP n le) : LatP n (du le) := ⟨h.le10, Ord.du h.ord, h.lat.ne, h.lat.join, h.lat.meet⟩

theorem LatP.glb {n : Nat} {le : Nat → Nat → Bool} (h : LatP n le) {x y : Nat} (hx : x < n) (hy : y < n) : IsGlb n le [x, y] (mt n le x y) := glb_of_bnd (h.lat.meet x y hx hy)

theorem LatP.bnd2 {n : Nat} {le : Nat → Nat → Bool} (h : LatP n le) {x y : Nat} (hx : x < n) (hy : y < n) : bnd n le [x, y] = ((mt n le x y : Nat) : Int) := by
  have := h.lat.meet x y hx hy
  unfold mt; omega

theorem LatP.mlt {n : Nat} {le : Nat → Nat → Bool} (h : LatP n le) {x y : Nat} (hx : x < n) (hy : y < n) : mt n le x y < n := (h.glb hx hy).lt

theorem LatP.m1 {n : Nat} {le : Nat → Nat → Bool} (h : LatP n le) {x y : Nat} (hx : x < n) (hy : y < n) : le (mt n le x y) x = true := (h.glb hx hy).lo x (by simp)

theorem LatP.m2 {n : Nat} {le : Nat → Nat → Bool} (h : LatP n le) {x y : Nat} (hx : x < n) (hy : y < n) : le (mt n le x y) y = true := (h.glb hx hy).lo y (by simp)

theorem LatP.mg {n : Nat} {le : Nat → Nat → Bool} (h : LatP n le) {x y z : Nat} (hx : x < n) (hy : y < n) (hz : z < n) (h1 : le z x = true) (h2 : le z y = true) : le z (mt n le x y) = true :=
  (h.glb hx hy).gr z hz (by simp [h1, h2])

theorem LatP.tr {n : Nat} {le : Nat → Nat → Bool} (h : LatP n le) {x y z : Nat} (hx : x < n) (hy : y < n) (hz : z < n) (h1 : le x y = true) (h2 : le y z = true) : le x z = true := h.ord.trans x y z hx hy hz h1 h2

theorem LatP.as {n : Nat} {le : Nat → Nat → Bool} (h : LatP n le) {x y : Nat} (hx : x < n) (hy : y < n) (h1 : le x y = true) (h2 : le y x = true) : x = y := by
  by_cases e : x = y
  · exact e
  · rw [h.ord.anti x y hx hy e h1] at h2; cases h2

theorem topEx {n : Nat} {le : Nat → Nat → Bool} (h : LatP n le) : ∃ t, IsGlb n le [] t := by
  have key : ∀ i, i ≤ n → ∃ t, t < n ∧ ∀ x, x < i → le x t = true := by
    intro i
    induction i with
    | zero => exact fun _ => ⟨0, h.lat.ne, by intro x hx; omega⟩
    | succ i ih =>
      intro hi
      obtain ⟨t, ht, h1⟩ := ih (by omega)
      have hin : i < n := by omega
      refine ⟨mt n (Ytcdlbboeflehdaa.du le) t i, h.du.mlt ht hin, all_lt_succ.2 ⟨fun x hx => ?_, h.du.m2 ht hin⟩⟩
      exact h.tr (by omega) ht (h.du.mlt ht hin) (h1 x hx) (h.du.m1 ht hin)
  obtain ⟨t, ht, h1⟩ := key n (by omega)
  exact ⟨t, ht, by simp, fun z hz _ => h1 z hz⟩

theorem glbEx {n : Nat} {le : Nat → Nat → Bool} (h : LatP n le) : ∀ S : List Nat, (∀ s ∈ S, s < n) → ∃ m, IsGlb n le S m
  | [], _ => topEx h
  | s :: S, hS => by
    obtain ⟨m, hm⟩ := glbEx h S fun x hx => hS x (by simp [hx])
    have hs := hS s (by simp)
    refine ⟨mt n le s m, h.mlt hs hm.lt, fun x hx => ?_, fun z hz hx => ?_⟩
    · rcases List.mem_cons.1 hx with rfl | hx'
      · exact h.m1 hs hm.lt
      · exact h.tr (h.mlt hs hm.lt) hm.lt (hS x hx) (h.m2 hs hm.lt) (hm.lo x hx')
    · exact h.mg hs hm.lt hz (hx s (by simp)) (hm.gr z hz fun x hx' => hx x (by simp [hx']))

theorem LatP.gbs {n : Nat} {le : Nat → Nat → Bool} (h : LatP n le) {S : List Nat} (hS : ∀ s ∈ S, s < n) : IsGlb n le S (gb n le S) := by
  obtain ⟨m, hm⟩ := glbEx h S hS
  unfold gb
  rw [bnd_of_glb h.ord hm]
  exact hm

theorem noneLt {n : Nat} : ∀ s ∈ ([] : List Nat), s < n := fun s hs => by cases hs

theorem lat1 (n : Nat) (le : Nat → Nat → Bool) : (lat n le).1 = mkT n le := rfl

theorem lat2 (n : Nat) (le : Nat → Nat → Bool) : (lat n le).2.1 = mkT n fun x y => ((mt n le x y : Nat) : Int) := rfl

theorem lat3 (n : Nat) (le : Nat → Nat → Bool) : (lat n le).2.2.1 = mkT n fun x y => ((mt n (du le) x y : Nat) : Int) := rfl

theorem l24Meet_eq {n : Nat} {le : Nat → Nat → Bool} (h : LatP n le) {x y : Nat} (hx : x < n) (hy : y < n) : zz75 (pos n le) (x : Int) (y : Int) = some (((mt n le x y : Nat) : Int), ()) := by
  have := h.le10
  unfold zz75 zz75_s
  rw [show ([(x : Int), (y : Int)] : List Int) = cs [x, y] from rfl, specBound_pos (by omega) (by simp [hx, hy]) (by simp), Option.bind_some, h.bnd2 hx hy]

theorem l24Join_eq {n : Nat} {le : Nat → Nat → Bool} (h : LatP n le) {x y : Nat} (hx : x < n) (hy : y < n) : zz76 (pos n le) (x : Int) (y : Int) = some (((mt n (du le) x y : Nat) : Int), ()) := by
  have := h.le10
  unfold zz76 zz76_s
  rw [specDual_pos (by omega), Option.bind_some, show ([(x : Int), (y : Int)] : List Int) = cs [x, y] from rfl, specBound_pos (by omega) (by simp [hx, hy]) (by simp), Option.bind_some, h.du.bnd2 hx hy]

theorem l2Elements_eq (n : Nat) (s : List Int) (hn : n ≤ 1099511627776) (hs : s.length ≤ 4294967296) : zz37 big (n : Int) s = some (s.all (inB n), ()) := by
  unfold zz37 zz37_s
  refine zz37_h2 s.length (fun i => (s.take i).all (inB n) = true) (by omega) ?_ ?_ 0 (by omega) rfl
  · intro rc i hi hv ih
    unfold zz37_b2
    have e : decide (0 ≤ s[i] ∧ s[i] ≤ (n : Int) - 1) = inB n s[i] := by
      unfold inB; exact decide_eq_decide.2 (by omega)
    rw [cdt (by omega), atI_lt s i hi, Option.bind_some, wr (n := (n : Int) - 1) (by omega) (by omega), l1In_eq, Option.bind_some, e, wr1 (by omega)]
    cases h : inB n s[i] with
    | true => exact ih (by rw [all_take hi, hv, h]; rfl)
    | false =>
      have : s.all (inB n) = false := List.all_eq_false.2 ⟨_, List.getElem_mem hi, by simp [h]⟩
      rw [this]; rfl
  · intro rc hv
    rw [List.take_length] at hv
    unfold zz37_b2
    rw [cdf (by omega), zz37_a2, hv]

theorem value_ok {n : Nat} {le : Nat → Nat → Bool} (h : LatP n le) {E : List Nat} (hE : ∀ x ∈ E, x < n) (hE5 : E.length = 5) : ∀ (b : Nat) (w : List Int), w.length ≤ b → b ≤ 1000 → we w 1 0 = some w.length →
    ∃ k : Nat, k < n ∧ ∀ d, b < d → R_zz77 d (pos n le, w, cs E, ()) = some ((k : Int), ()) ∧ R_zz65 d (some (lat n le), w, cs E, ()) = some ((k : Int), ())
  | b, [], _, _, hw => by simp [we] at hw
  | 0, x :: xs, hl, _, _ => by simp at hl
  | b + 1, x :: xs, hl, hb, hw => by
    simp only [List.length_cons] at hl hw
    simp only [we] at hw
    split at hw
    · cases hw
    · rename_i hr
      have a0 : atI (x :: xs) (0 : Int) = some x := rfl
      by_cases hx : 0 ≤ x
      · rw [if_pos hx] at hw
        have hxn : x.toNat < E.length := by omega
        have ex : x = ((x.toNat : Nat) : Int) := by omega
        refine ⟨E[x.toNat], hE _ (List.getElem_mem hxn), fun d hd => ?_⟩
        obtain ⟨d, rfl⟩ : ∃ q, d = q + 1 := ⟨d - 1, by omega⟩
        have ae : atI (cs E) x = some ((E[x.toNat] : Nat) : Int) := by
          have := atI_cs hxn
          rw [← ex] at this
          exact this
        constructor
        · simp only [R_zz77, zz77, zz77_s, a0, Option.bind_some, cdt hx, ae]
        · simp only [R_zz65, zz65, zz65_s, a0, Option.bind_some, cdt hx, ae]
      · rw [if_neg hx] at hw
        obtain ⟨e, h1, h2, h3, h4⟩ := we_split xs 1 1 1 _ hw
        obtain ⟨p1, p2⟩ := parts_eq (x := x) (by omega) h1 h3
        have ht := we_take xs 1 1 e h1
        have l1 : (xs.take (e - 1)).length = e - 1 := by simp; omega
        have l2 : (xs.drop (e - 1)).length = xs.length - (e - 1) := by simp
        have w1 : we (xs.take (e - 1)) 1 0 = some (xs.take (e - 1)).length := we_back (c := 1) (by rw [ht, l1]; congr 1; omega)
        have w2 : we (xs.drop (e - 1)) 1 0 = some (xs.drop (e - 1)).length := we_back (c := e) (by rw [h4, l2]; congr 1; omega)
        obtain ⟨k1, hk1, q1⟩ := value_ok h hE hE5 b (xs.take (e - 1)) (by omega) (by omega) w1
        obtain ⟨k2, hk2, q2⟩ := value_ok h hE hE5 b (xs.drop (e - 1)) (by omega) (by omega) w2
        by_cases hm : x = -1
        · refine ⟨mt n le k1 k2, h.mlt hk1 hk2, fun d hd => ?_⟩
          obtain ⟨d, rfl⟩ : ∃ q, d = q + 1 := ⟨d - 1, by omega⟩
          constructor
          · simp only [R_zz77, zz77, zz77_s, a0, Option.bind_some, cdf hx, p1, (q1 d (by omega)).1, (q2 d (by omega)).1, cdt hm, l24Meet_eq h hk1 hk2]
          · simp only [R_zz65, zz65, zz65_s, a0, Option.bind_some, cdf hx, p2, (q1 d (by omega)).2, (q2 d (by omega)).2, cdt hm, lat2, atI_mkR hk1, atI_mkR hk2]
        · refine ⟨mt n (Ytcdlbboeflehdaa.du le) k1 k2, h.du.mlt hk1 hk2, fun d hd => ?_⟩
          obtain ⟨d, rfl⟩ : ∃ q, d = q + 1 := ⟨d - 1, by omega⟩
          constructor
          · simp only [R_zz77, zz77, zz77_s, a0, Option.bind_some, cdf hx, p1, (q1 d (by omega)).1, (q2 d (by omega)).1, cdf hm, l24Join_eq h hk1 hk2]
          · simp only [R_zz65, zz65, zz65_s, a0, Option.bind_some, cdf hx, p2, (q1 d (by omega)).2, (q2 d (by omega)).2, cdf hm, lat3, atI_mkR hk1, atI_mkR hk2]

theorem wordValue_eq (p : PT) (w E : List Int) (hp : ∀ r ∈ p.1, r.length ≤ 4294967296) (hE : E.length ≤ 1048576) :
    ∃ v : Int × Bool × Unit, zz79 p w E = some (v, ()) ∧ zz67 p w E = some (v, ()) := by
  have hbig := big_ge
  unfold zz79 zz79_s zz67 zz67_s
  rw [l28Good_eq, Option.bind_some]
  rcases lat_cases hp with ⟨n, le, e, h, h1, h2⟩ | ⟨h1, l, h2⟩
  · subst e
    have h10 := h.le10
    rw [h1, h2, Option.bind_some, Option.bind_some, Bool.not_true, cond_false, cond_false, implIsWord_eq, Option.bind_some]
    cases hw : isWord w with
    | false => exact ⟨_, rfl, rfl⟩
    | true =>
      simp only [Bool.not_true, cond_false, pos_len]
      by_cases h5 : E.length = 5
      · rw [cdf (by omega), cdf (by omega), l2Elements_eq n E (by omega) (by omega), Option.bind_some, Option.bind_some, lat1, has_eq E (by omega), Option.bind_some]
        cases ha : E.all (inB n) with
        | false => exact ⟨_, rfl, rfl⟩
        | true =>
          obtain ⟨F, e1, hF⟩ := allB_form ha
          subst e1
          rw [cs_len] at h5
          obtain ⟨hw1, hw2⟩ := (isWord_iff w).1 hw
          obtain ⟨k, hk, hd⟩ := value_ok h hF h5 w.length w (by omega) (by omega) hw2
          simp only [Bool.not_true, cond_false]
          rw [(hd big (by omega)).1, (hd big (by omega)).2]
          exact ⟨_, rfl, rfl⟩
      · rw [cdt (by omega), cdt (by omega)]
        exact ⟨_, rfl, rfl⟩
  · rw [h1, h2]
    cases isWord w
    · exact ⟨_, rfl, rfl⟩
    · exact ⟨_, rfl, rfl⟩

abbrev bt (n : Nat) (le : Nat → Nat → Bool) : Nat := gb n (du le) []

abbrev tp (n : Nat) (le : Nat → Nat → Bool) : Nat := gb n le []

theorem bt_lt {n : Nat} {le : Nat → Nat → Bool} (h : LatP n le) : bt n le < n := (h.du.gbs noneLt).lt

theorem tp_lt {n : Nat} {le : Nat → Nat → Bool} (h : LatP n le) : tp n le < n := (h.gbs noneLt).lt

theorem bt_le {n : Nat} {le : Nat → Nat → Bool} (h : LatP n le) {x : Nat} (hx : x < n) : le (bt n le) x = true := (h.du.gbs noneLt).gr x hx (by simp)

theorem le_tp {n : Nat} {le : Nat → Nat → Bool} (h : LatP n le) {x : Nat} (hx : x < n) : le x (tp n le) = true := (h.gbs noneLt).gr x hx (by simp)

theorem jlt {n : Nat} {le : Nat → Nat → Bool} (h : LatP n le) {x y : Nat} (hx : x < n) (hy : y < n) : mt n (du le) x y < n := h.du.mlt hx hy

theorem j1 {n : Nat} {le : Nat → Nat → Bool} (h : LatP n le) {x y : Nat} (hx : x < n) (hy : y < n) : le x (mt n (du le) x y) = true := h.du.m1 hx hy

theorem j2 {n : Nat} {le : Nat → Nat → Bool} (h : LatP n le) {x y : Nat} (hx : x < n) (hy : y < n) : le y (mt n (du le) x y) = true := h.du.m2 hx hy

theorem jg {n : Nat} {le : Nat → Nat → Bool} (h : LatP n le) {x y z : Nat} (hx : x < n) (hy : y < n) (hz : z < n) (h1 : le x z = true) (h2 : le y z = true) : le (mt n (du le) x y) z = true := h.du.mg hx hy hz h1 h2

def rel (n : Nat) (le : Nat → Nat → Bool) (x y z : Nat) : List Nat := fl n fun c => decide (mt n le c y = x) && decide (mt n (du le) c y = z)

def comp (n : Nat) (le : Nat → Nat → Bool) (x : Nat) : List Nat := rel n le (bt n le) x (tp n le)

def Cen (n : Nat) (le : Nat → Nat → Bool) (x y : Nat) : Prop := ∀ z, z < n → mt n (du le) (mt n le z x) (mt n le z y) = z ∧ mt n le (mt n (du le) z x) (mt n (du le) z y) = z

abbrev P2 := Int × Int × Unit

def lx : List Int → List Int → Bool
  | a :: s, b :: t => if a ≠ b then decide (a < b) else lx s t
  | _, _ => false

def upd (b f : List Int) (g : Bool) : List Int := if g && (decide (b.length = 0) || lx f b) then f else b

def f5 (n : Nat) (le : Nat → Nat → Bool) (o : Nat) (x y z i : Nat) : List Int := [(o : Int), (x : Int), (y : Int), (z : Int), (i : Int)]

structure Pt (n : Nat) (P : Nat → Nat) : Prop where
  lo : ∀ x, x < n → P x ≤ x
  id : ∀ x, x < n → P (P x) = P x

theorem Pt.lt {n : Nat} {P : Nat → Nat} (h : Pt n P) {x : Nat} (hx : x < n) : P x < n := Nat.lt_of_le_of_lt (h.lo x hx) hx

def Lep (n : Nat) (P C : Nat → Nat) : Prop := ∀ x, x < n → C (P x) = C x

theorem Lep.refl {n : Nat} {P : Nat → Nat} (h : Pt n P) : Lep n P P := h.id

theorem Lep.trans {n : Nat} {P Q C : Nat → Nat} (h : Pt n P) (h1 : Lep n P Q) (h2 : Lep n Q C) : Lep n P C := fun x hx => by
  have e1 := h1 x hx
  have e2 := h2 (P x) (h.lt hx)
  have e3 := h2 x hx
  rw [← e2, e1, e3]

inductive Wd where
  | v (n : Int)
  | op (g : Int) (a b : Wd)

def Wd.fl : Wd → List Int
  | .v n => [n]
  | .op g a b => g :: (a.fl ++ b.fl)

def Wd.hd : Wd → Int
  | .v n => n
  | .op g _ _ => g

def Wd.ok : Wd → Prop
  | .v n => 0 ≤ n ∧ n < 5
  | .op g a b => (g = -1 ∨ g = -2) ∧ a.ok ∧ b.ok

theorem Wd.pos : ∀ A : Wd, 0 < A.fl.length
  | .v n => by simp [Wd.fl]
  | .op g a b => by simp [Wd.fl]

theorem we_fl : ∀ (A : Wd), A.ok → ∀ (r : List Int) (n c : Nat), we (A.fl ++ r) (n + 1) c = we r n (c + A.fl.length)
  | .v x, h, r, n, c => by
    simp only [Wd.ok] at h
    simp only [Wd.fl, List.cons_append, List.nil_append, we, List.length_cons, List.length_nil]
    rw [if_neg (by omega), if_pos h.1]
  | .op g a b, h, r, n, c => by
    obtain ⟨hg, ha, hb⟩ := h
    simp only [Wd.fl, List.cons_append, we]
    rw [if_neg (by omega), if_neg (by omega), List.append_assoc, we_fl a ha, we_fl b hb]
    simp only [List.length_cons, List.length_append]
    congr 1
    omega

theorem we_parse : ∀ (m : Nat) (xs : List Int) (n c e : Nat), xs.length ≤ m → we xs (n + 1) c = some e → ∃ A r, A.ok ∧ xs = Wd.fl A ++ r ∧ we r n (c + A.fl.length) = some e
  | _, [], n, c, e, _, h => by simp [we] at h
  | 0, _ :: _, _, _, _, hm, _ => by simp at hm
  | m + 1, x :: xs, n, c, e, hm, h => by
    simp only [List.length_cons] at hm
    simp only [we] at h
    split at h
    · cases h
    rename_i hx
    split at h
    · rename_i h0
      exact ⟨.v x, xs, ⟨h0, by omega⟩, rfl, h⟩
    · rename_i h0
      obtain ⟨A, r1, hA, e1, h1⟩ := we_parse m xs (n + 1) (c + 1) e (by omega) h
      have hl : r1.length ≤ m := by
        have := congrArg List.length e1
        simp only [List.length_append] at this
        omega
      obtain ⟨B, r2, hB, e2, h2⟩ := we_parse m r1 n _ e hl h1
      refine ⟨.op x A B, r2, ⟨by omega, hA, hB⟩, ?_, ?_⟩
      · rw [e1, e2]; simp [Wd.fl]
      · rw [← h2]
        congr 1
        simp [Wd.fl]
        omega

theorem fl_inj : ∀ (A B : Wd), A.ok → B.ok → ∀ (r r' : List Int), A.fl ++ r = B.fl ++ r' → A = B ∧ r = r'
  | .v x, .v y, _, _, r, r', h => by
    simp only [Wd.fl, List.cons_append, List.nil_append, List.cons.injEq] at h
    exact ⟨by rw [h.1], h.2⟩
  | .v x, .op g a b, ha, hb, r, r', h => by
    simp only [Wd.fl, List.cons_append, List.nil_append, List.cons.injEq] at h
    have h1 := ha.1
    have h2 := hb.1
    omega
  | .op g a b, .v x, ha, hb, r, r', h => by
    simp only [Wd.fl, List.cons_append, List.nil_append, List.cons.injEq] at h
    have h1 := ha.1
    have h2 := hb.1
    omega
  | .op g a b, .op g' a' b', ha, hb, r, r', h => by
    simp only [Wd.fl, List.cons_append, List.append_assoc, List.cons.injEq] at h
    obtain ⟨e0, h⟩ := h
    obtain ⟨e1, h⟩ := fl_inj a a' ha.2.1 hb.2.1 _ _ h
    obtain ⟨e2, h⟩ := fl_inj b b' ha.2.2 hb.2.2 _ _ h
    exact ⟨by rw [e0, e1, e2], h⟩

theorem word_tree {w : List Int} (h : isWord w = true) : ∃ A : Wd, A.ok ∧ A.fl = w := by
  obtain ⟨_, h⟩ := (isWord_iff w).1 h
  obtain ⟨A, r, hA, e, h2⟩ := we_parse w.length w 0 0 w.length (Nat.le_refl _) h
  rw [we_zero] at h2
  simp only [Option.some.injEq] at h2
  have := congrArg List.length e
  simp only [List.length_append] at this
  have hr : r = [] := List.eq_nil_of_length_eq_zero (by omega)
  exact ⟨A, hA, by rw [e, hr, List.append_nil]⟩

def wle : Wd → Wd → Bool
  | .v n, .v m => decide (n = m)
  | .v n, .op h c d => if h = -1 then wle (.v n) c && wle (.v n) d else wle (.v n) c || wle (.v n) d
  | .op g a b, .v m => if g = -2 then wle a (.v m) && wle b (.v m) else wle a (.v m) || wle b (.v m)
  | .op g a b, .op h c d => if g = -2 then wle a (.op h c d) && wle b (.op h c d) else if h = -1 then wle (.op g a b) c && wle (.op g a b) d else (wle a (.op h c d) || wle b (.op h c d)) || (wle (.op g a b) c || wle (.op g a b) d)
termination_by A B => A.fl.length + B.fl.length
decreasing_by all_goals (simp [Wd.fl]; try omega)

def At (s : List Int) (i : Nat) (A : Wd) : Prop := A.ok ∧ ∃ r, s.drop i = A.fl ++ r

theorem At.lt {s : List Int} {i : Nat} {A : Wd} (h : At s i A) : i + A.fl.length ≤ s.length := by
  obtain ⟨_, r, e⟩ := h
  have := congrArg List.length e
  have := A.pos
  simp only [List.length_drop, List.length_append] at *
  omega

theorem At.uniq {s : List Int} {i : Nat} {A B : Wd} (h : At s i A) (h' : At s i B) : A = B := by
  obtain ⟨ha, r, e⟩ := h
  obtain ⟨hb, r', e'⟩ := h'
  rw [e] at e'
  exact (fl_inj A B ha hb _ _ e').1

theorem At.end_ {s : List Int} {i : Nat} {A : Wd} (h : At s i A) : wEnd s i = ((i + A.fl.length : Nat) : Int) := by
  obtain ⟨ha, r, e⟩ := h
  unfold wEnd
  rw [e, we_fl A ha, we_zero]

theorem At.head {s : List Int} {i : Nat} {A : Wd} (h : At s i A) : atI s (i : Int) = some A.hd := by
  have hl := h.lt
  have hp := A.pos
  obtain ⟨_, r, e⟩ := h
  rw [atI_nat]
  have : s[i]? = (s.drop i)[0]? := by rw [List.getElem?_drop]; rfl
  rw [this, e]
  cases A <;> simp [Wd.fl, Wd.hd]

theorem At.left {s : List Int} {i : Nat} {g : Int} {a b : Wd} (h : At s i (.op g a b)) : At s (i + 1) a := by
  obtain ⟨⟨_, ha, _⟩, r, e⟩ := h
  refine ⟨ha, b.fl ++ r, ?_⟩
  rw [← List.drop_drop, e]
  simp [Wd.fl]

theorem At.right {s : List Int} {i : Nat} {g : Int} {a b : Wd} (h : At s i (.op g a b)) : At s (i + 1 + a.fl.length) b := by
  obtain ⟨⟨_, _, hb⟩, r, e⟩ := h
  refine ⟨hb, r, ?_⟩
  rw [← List.drop_drop, ← List.drop_drop, e]
  simp [Wd.fl]

theorem At.zero {A : Wd} (h : A.ok) : At A.fl 0 A := ⟨h, [], by simp⟩

abbrev K2 : Ty := .pair I (.pair I .unit)

def OkM (s t : List Int) (m : List ((Int × (Int × Unit)) × Bool)) : Prop :=
  ∀ (i k : Nat) A B, At s i A → At t k B → ∀ b, mget K2 .bool m ((i : Int), ((k : Int), ())) = some b → b = wle A B

theorem key_eq (x y : Int × (Int × Unit)) : eqD K2 x y = decide (x = y) := by
  obtain ⟨a, b, u⟩ := x
  obtain ⟨c, d, v⟩ := y
  show (decide (a = c) && (decide (b = d) && true)) = decide ((a, b, u) = (c, d, v))
  rw [Bool.eq_iff_iff]
  simp

theorem mget_mput (x y : Int × (Int × Unit)) (b : Bool) : ∀ m : List ((Int × (Int × Unit)) × Bool), mget K2 .bool (mput K2 .bool m x b) y = if y = x then some b else mget K2 .bool m y
  | [] => by
    show cond (eqD K2 y x) (some b) none = _
    rw [key_eq, cd]
    rfl
  | (z, c) :: m => by
    have ih := mget_mput x y b m
    show mget K2 .bool (cond (eqD K2 x z) ((x, b) :: m) ((z, c) :: mput K2 .bool m x b)) y = (if y = x then some b else cond (eqD K2 y z) (some c) (mget K2 .bool m y))
    rw [key_eq, cd, key_eq, cd]
    by_cases hx : x = z
    · rw [if_pos hx, ← hx]
      show cond (eqD K2 y x) (some b) (mget K2 .bool m y) = _
      rw [key_eq, cd]
      by_cases h : y = x <;> simp [h]
    · rw [if_neg hx]
      show cond (eqD K2 y z) (some c) (mget K2 .bool (mput K2 .bool m x b) y) = _
      rw [key_eq, cd, ih]
      by_cases hz : y = z
      · rw [if_pos hz, if_neg (by rintro rfl; exact hx hz), if_pos hz]
      · rw [if_neg hz, if_neg hz]

theorem wrN {n : Nat} (h : n ≤ 1000000000000) : IntKind.i64.wrap ((n : Int) + 1) = ((n + 1 : Nat) : Int) := by rw [wr (by omega) (by omega)]; omega

theorem implEnd_at {s : List Int} {i : Nat} {A : Wd} (hs : s.length ≤ 1000000) (h : At s i A) : zz14 big s (i : Int) = some (((i + A.fl.length : Nat) : Int), ()) := by
  rw [wordEnd_eq s i (by have := h.lt; omega) (by omega), h.end_]

theorem specEnd_at {s : List Int} {i : Nat} {A : Wd} (hs : s.length ≤ 1000000) (h : At s i A) : zz10 big s (i : Int) = some (((i + A.fl.length : Nat) : Int), ()) := by
  rw [l28End_eq s i (by have := h.lt; omega) (by omega), h.end_]

def Res (s t : List Int) (o : Option (Bool × (((List Int) × ((List Int) × ((List ((Int × (Int × Unit)) × Bool)) × Unit))) × Unit))) (b : Bool) : Prop := ∃ m', o = some (b, (s, (t, (m', ()))), ()) ∧ OkM s t m'

def GivesB (s t : List Int) (d : Nat) (A B : Wd) : Prop := ∀ (i k : Nat) m, At s i A → At t k B → OkM s t m → Res s t (R_zz17 d ((s, (t, (m, ()))), (i : Int), (k : Int), ())) (wle A B)

def GivesD (s t : List Int) (d : Nat) (A B : Wd) : Prop := ∀ (i k : Nat) m, At s i A → At t k B → OkM s t m → Res s t (R_zz18 d ((s, (t, (m, ()))), (i : Int), (k : Int), ())) (wle A B)

theorem below_of {s t : List Int} {d : Nat} {A B : Wd} (h : GivesD s t d A B) : GivesB s t (d + 1) A B := by
  intro i k m hA hB hm
  show Res s t (zz17 (R_zz17 d) (R_zz18 d) (s, (t, (m, ()))) (i : Int) (k : Int)) (wle A B)
  unfold zz17 zz17_s
  simp only
  cases hg : mget K2 .bool m ((i : Int), ((k : Int), ())) with
  | none =>
    obtain ⟨m', h1, h2⟩ := h i k m hA hB hm
    rw [h1]
    refine ⟨_, rfl, fun i' k' A' B' hA' hB' b hb => ?_⟩
    simp only [mget_mput] at hb
    split at hb
    · rename_i e
      simp only [Prod.mk.injEq, and_true] at e
      have e1 : (i' : Int) = (i : Int) := e.1
      have e2 : (k' : Int) = (k : Int) := e.2
      have e1 : i' = i := by omega
      have e2 : k' = k := by omega
      subst e1 e2
      cases hb
      rw [hA'.uniq hA, hB'.uniq hB]
    · exact h2 i' k' A' B' hA' hB' b hb
  | some b =>
    refine ⟨m, ?_, hm⟩
    rw [← hm i k A B hA hB b hg]
    rfl

theorem impl_below {s t : List Int} (hs : s.length ≤ 1000000) (ht : t.length ≤ 1000000) : ∀ (n : Nat) (A B : Wd), A.fl.length + B.fl.length ≤ n → (∀ d, 2 * (A.fl.length + B.fl.length) ≤ d → GivesD s t d A B) := by
  intro n
  induction n with
  | zero => intro A B h; have := A.pos; omega
  | succ n ih =>
    intro A B hn d hd
    have pa := A.pos
    have pb := B.pos
    cases d with
    | zero => omega
    | succ d =>
    have sub : ∀ A' B' : Wd, A'.fl.length + B'.fl.length < A.fl.length + B.fl.length → GivesB s t d A' B' := by
      intro A' B' h
      have := A'.pos
      cases d with
      | zero => omega
      | succ d => exact below_of (ih A' B' (by omega) d (by omega))
    intro i k m hA hB hm
    show Res s t (zz18 (R_zz17 d) (R_zz18 d) (s, (t, (m, ()))) (i : Int) (k : Int)) (wle A B)
    unfold zz18 zz18_s
    have hAl := hA.lt
    have hBl := hB.lt
    have okA := hA.1
    have okB := hB.1
    obtain ⟨x, hx⟩ : ∃ x, x = A.hd := ⟨_, rfl⟩
    obtain ⟨y, hy⟩ : ∃ y, y = B.hd := ⟨_, rfl⟩
    have hah := hA.head
    have hbh := hB.head
    rw [← hx] at hah
    rw [← hy] at hbh
    simp only [hah, hbh, Option.bind_some]
    rw [wrN (n := i) (by omega), wrN (n := k) (by omega)]
    cases A with
    | v x' =>
      have hx : x = x' := hx
      have hx0 : 0 ≤ x := by rw [hx]; exact okA.1
      cases B with
      | v y' =>
        have hy : y = y' := hy
        have hy0 : 0 ≤ y := by rw [hy]; exact okB.1
        rw [cdf (by omega), cdf (by omega), cdt hx0, cdt hy0]
        exact ⟨m, by simp [wle, hx, hy], hm⟩
      | op g a b =>
        have hy : y = g := hy
        have hgo := okB.1
        obtain ⟨m1, q1, o1⟩ := sub (.v x') a (by simp [Wd.fl]; omega) i (k + 1) m hA hB.left hm
        rw [cdf (by omega)]
        by_cases hg : y = -1
        · rw [cdt hg, q1]
          simp only [Option.bind_some]
          rw [implEnd_at ht hB.left]
          obtain ⟨m2, q2, o2⟩ := sub (.v x') b (by simp [Wd.fl]; omega) i (k + 1 + a.fl.length) m1 hA hB.right o1
          simp only [Option.bind_some, q2]
          rw [wle, if_pos (hy ▸ hg)]
          cases wle (.v x') a
          · exact ⟨m1, by simp, o1⟩
          · exact ⟨m2, by simp, o2⟩
        · rw [cdf hg, cdt hx0, cdf (by omega), cdf (by omega), cdt (by omega), q1]
          simp only [Option.bind_some]
          rw [implEnd_at ht hB.left]
          obtain ⟨m2, q2, o2⟩ := sub (.v x') b (by simp [Wd.fl]; omega) i (k + 1 + a.fl.length) m1 hA hB.right o1
          simp only [Option.bind_some, q2]
          rw [wle, if_neg (by omega)]
          cases wle (.v x') a
          · exact ⟨m2, by simp, o2⟩
          · exact ⟨m1, by simp, o1⟩
    | op g a b =>
      have hx : x = g := hx
      have hgo := okA.1
      by_cases hg : x = -2
      · obtain ⟨m1, q1, o1⟩ := sub a B (by simp [Wd.fl]; omega) (i + 1) k m hA.left hB hm
        obtain ⟨m2, q2, o2⟩ := sub b B (by simp [Wd.fl]; omega) (i + 1 + a.fl.length) k m1 hA.right hB o1
        rw [cdt hg, q1]
        simp only [Option.bind_some]
        rw [implEnd_at hs hA.left]
        simp only [Option.bind_some, q2]
        have e : wle (.op g a b) B = (wle a B && wle b B) := by cases B <;> rw [wle, if_pos (by omega)]
        rw [e]
        cases wle a B
        · exact ⟨m1, by simp, o1⟩
        · exact ⟨m2, by simp, o2⟩
      · cases B with
        | v y' =>
          have hy : y = y' := hy
          have hy0 : 0 ≤ y := by rw [hy]; exact okB.1
          obtain ⟨m1, q1, o1⟩ := sub a (.v y') (by simp [Wd.fl]; omega) (i + 1) k m hA.left hB hm
          obtain ⟨m2, q2, o2⟩ := sub b (.v y') (by simp [Wd.fl]; omega) (i + 1 + a.fl.length) k m1 hA.right hB o1
          rw [cdf hg, cdf (by omega), cdf (by omega), cdt (by omega), q1]
          simp only [Option.bind_some]
          rw [implEnd_at hs hA.left]
          simp only [Option.bind_some, q2]
          rw [cdf (by omega), wle, if_neg (by omega)]
          cases wle a (.v y')
          · cases wle b (.v y')
            · exact ⟨m2, by simp, o2⟩
            · exact ⟨m2, by simp, o2⟩
          · exact ⟨m1, by simp, o1⟩
        | op h c e =>
          have hy : y = h := hy
          have hho := okB.1
          rw [cdf hg]
          by_cases hh : y = -1
          · obtain ⟨m1, q1, o1⟩ := sub (.op g a b) c (by simp [Wd.fl]; omega) i (k + 1) m hA hB.left hm
            obtain ⟨m2, q2, o2⟩ := sub (.op g a b) e (by simp [Wd.fl]; omega) i (k + 1 + c.fl.length) m1 hA hB.right o1
            rw [cdt hh, q1]
            simp only [Option.bind_some]
            rw [implEnd_at ht hB.left]
            simp only [Option.bind_some, q2]
            rw [wle, if_neg (by omega), if_pos (by omega)]
            cases wle (.op g a b) c
            · exact ⟨m1, by simp, o1⟩
            · exact ⟨m2, by simp, o2⟩
          · obtain ⟨m1, q1, o1⟩ := sub a (.op h c e) (by simp [Wd.fl]; omega) (i + 1) k m hA.left hB hm
            obtain ⟨m2, q2, o2⟩ := sub b (.op h c e) (by simp [Wd.fl]; omega) (i + 1 + a.fl.length) k m1 hA.right hB o1
            obtain ⟨m3, q3, o3⟩ := sub (.op g a b) c (by simp [Wd.fl]; omega) i (k + 1) m2 hA hB.left o2
            obtain ⟨m4, q4, o4⟩ := sub (.op g a b) e (by simp [Wd.fl]; omega) i (k + 1 + c.fl.length) m3 hA hB.right o3
            rw [cdf hh, cdf (by omega), cdt (by omega), q1]
            simp only [Option.bind_some]
            rw [implEnd_at hs hA.left]
            simp only [Option.bind_some, q2]
            rw [cdt (show y = -2 by omega), q3]
            simp only [Option.bind_some]
            rw [implEnd_at ht hB.left]
            simp only [Option.bind_some, q4]
            rw [wle, if_neg (by omega), if_neg (by omega)]
            cases wle a (.op h c e)
            · cases wle b (.op h c e)
              · cases wle (.op g a b) c
                · exact ⟨m4, by simp, o4⟩
                · exact ⟨m3, by simp, o3⟩
              · exact ⟨m2, by simp, o2⟩
            · exact ⟨m1, by simp, o1⟩

theorem wordBelow_eq {A B : Wd} (hA : A.ok) (hB : B.ok) (ha : A.fl.length ≤ 40) (hb : B.fl.length ≤ 40) : zz20 A.fl B.fl = some (wle A B, ()) := by
  have hg := big_ge
  unfold zz20 zz20_s
  obtain ⟨d, hd⟩ : ∃ d, big = d + 1 := ⟨big - 1, by omega⟩
  have h := below_of (impl_below (s := A.fl) (t := B.fl) (by omega) (by omega) _ A B (Nat.le_refl _) d (by omega))
  obtain ⟨m', q, _⟩ := h 0 0 [] (At.zero hA) (At.zero hB) (fun i k A B _ _ b hb => by simp [mget] at hb)
  rw [hd]
  have q : R_zz17 (d + 1) ((A.fl, (B.fl, ([], ()))), (0 : Int), (0 : Int), ()) = some (wle A B, (A.fl, (B.fl, (m', ()))), ()) := q
  rw [q]
  rfl

def OkL (s t : List Int) (L : List Int) (i k : Nat) : Prop := ∀ A B, At s i A → At t k B → ∀ x : Int, L[i * t.length + k]? = some x → x = 0 ∨ x = if wle A B then 1 else 2

def SRes (s t L : List Int) (o : Option (Bool × ((List Int) × Unit))) (b : Bool) : Prop := ∃ L', o = some (b, (L', ())) ∧ L'.length = L.length ∧ ∀ i k, k < t.length → OkL s t L i k → OkL s t L' i k

def GivesF (s t : List Int) (d : Nat) (A B : Wd) : Prop := ∀ (i k : Nat) L, At s i A → At t k B → L.length = s.length * t.length → (∀ i' k', k' < t.length → i + k ≤ i' + k' → OkL s t L i' k') → SRes s t L (R_zz22 d (s, t, (i : Int), (k : Int), L, ())) (wle A B)

def GivesA (s t : List Int) (d : Nat) (A B : Wd) : Prop := ∀ (i k : Nat) L, At s i A → At t k B → L.length = s.length * t.length → (∀ i' k', k' < t.length → i + k + 1 ≤ i' + k' → OkL s t L i' k') → SRes s t L (R_zz23 d (s, t, (i : Int), (k : Int), L, ())) (wle A B)

theorem place_inj {n i k i' k' : Nat} (hk : k < n) (hk' : k' < n) (h : i * n + k = i' * n + k') : i = i' ∧ k = k' := by
  have e1 : (i * n + k) / n = i := by rw [Nat.mul_comm, Nat.mul_add_div (by omega), Nat.div_eq_of_lt hk]; omega
  have e2 : (i' * n + k') / n = i' := by rw [Nat.mul_comm, Nat.mul_add_div (by omega), Nat.div_eq_of_lt hk']; omega
  have e : i = i' := by rw [← e1, ← e2, h]
  subst e
  omega

theorem place_lt {m n i k : Nat} (hi : i < m) (hk : k < n) : i * n + k < m * n := by
  have : (i + 1) * n ≤ m * n := Nat.mul_le_mul_right n hi
  rw [Nat.succ_mul] at this
  omega

theorem place_wr {m n i k : Nat} (hm : m ≤ 1000) (hn : n ≤ 1000) (hi : i < m) (hk : k < n) : IntKind.i64.wrap ((IntKind.i64.wrap ((i : Int) * (n : Int))) + (k : Int)) = ((i * n + k : Nat) : Int) := by
  have h1 : i * n ≤ 1000 * 1000 := Nat.mul_le_mul (by omega) hn
  have e : (i : Int) * (n : Int) = ((i * n : Nat) : Int) := by simp
  rw [e, wr (n := ((i * n : Nat) : Int)) (by omega) (by omega), wr (by omega) (by omega)]
  simp

theorem from_of {s t : List Int} (hs : s.length ≤ 1000) (ht : t.length ≤ 1000) {d : Nat} {A B : Wd} (h : GivesA s t d A B) : GivesF s t (d + 1) A B := by
  intro i k L hA hB hL hok
  have hi : i < s.length := by have := hA.lt; have := A.pos; omega
  have hk : k < t.length := by have := hB.lt; have := B.pos; omega
  have hp := place_lt hi hk
  show SRes s t L (zz22 (R_zz22 d) (R_zz23 d) s t (i : Int) (k : Int) L) (wle A B)
  unfold zz22 zz22_s
  simp only [place_wr hs ht hi hk, Int.toNat_natCast]
  generalize hpp : i * t.length + k = p at *
  have hpL : p < L.length := by omega
  rw [atI_lt L p hpL, Option.bind_some, List.getElem?_eq_getElem hpL, Option.bind_some]
  by_cases h0 : L[p] = 0
  · rw [cdt h0]
    have other : ∀ (M : List Int) (v : Int) i' k', k' < t.length → (i' ≠ i ∨ k' ≠ k) → OkL s t M i' k' → OkL s t (M.set p v) i' k' := by
      intro M v i' k' hk' hne ho A' B' hA' hB' x hx
      rw [List.getElem?_set_ne] at hx
      · exact ho A' B' hA' hB' x hx
      · intro e
        rw [← hpp] at e
        have := place_inj hk hk' e
        omega
    obtain ⟨L3, q, l3, o3⟩ := h i k (L.set p 2) hA hB (by rw [List.length_set]; exact hL) (fun i' k' hk' hle => other L 2 i' k' hk' (by omega) (hok i' k' hk' (by omega)))
    rw [List.length_set] at l3
    have hp3 : p < L3.length := by omega
    rw [Option.bind_some, Option.bind_some, q]
    simp only [Option.bind_some]
    have keep : ∀ i' k', k' < t.length → (i' ≠ i ∨ k' ≠ k) → OkL s t L i' k' → OkL s t L3 i' k' := fun i' k' hk' hne ho => o3 i' k' hk' (other L 2 i' k' hk' hne ho)
    cases hw : wle A B with
    | true =>
      rw [cond_true, atI_lt L3 p hp3, Option.bind_some, List.getElem?_eq_getElem hp3, Option.bind_some, atI_lt _ p (by rw [List.length_set]; exact hp3), Option.bind_some, List.getElem?_set_self hp3, Option.bind_some]
      refine ⟨L3.set p 1, by simp, by rw [List.length_set]; exact l3, fun i' k' hk' ho => ?_⟩
      by_cases hne : i' ≠ i ∨ k' ≠ k
      · exact other L3 1 i' k' hk' hne (keep i' k' hk' hne ho)
      · obtain ⟨rfl, rfl⟩ : i' = i ∧ k' = k := by omega
        intro A' B' hA' hB' x hx
        rw [hpp, List.getElem?_set_self hp3] at hx
        cases hx
        rw [hA'.uniq hA, hB'.uniq hB, hw]
        simp
    | false =>
      rw [cond_false, atI_lt L3 p hp3, Option.bind_some, List.getElem?_eq_getElem hp3, Option.bind_some]
      have ok3 : OkL s t L3 i k := o3 i k hk (fun A' B' hA' hB' x hx => by
        rw [hpp, List.getElem?_set_self hpL] at hx
        cases hx
        rw [hA'.uniq hA, hB'.uniq hB, hw]
        simp)
      have hx3 := ok3 A B hA hB L3[p] (by rw [hpp, List.getElem?_eq_getElem hp3])
      rw [hw] at hx3
      have hne1 : L3[p] ≠ 1 := by
        rcases hx3 with hx3 | hx3
        · omega
        · simp at hx3; omega
      refine ⟨L3, by simp [hne1], l3, fun i' k' hk' ho => ?_⟩
      by_cases hne : i' ≠ i ∨ k' ≠ k
      · exact keep i' k' hk' hne ho
      · obtain ⟨rfl, rfl⟩ : i' = i ∧ k' = k := by omega
        exact ok3
  · rw [cdf h0, Option.bind_some, Option.bind_some]
    have hx := hok i k hk (Nat.le_refl _) A B hA hB L[p] (by rw [hpp, List.getElem?_eq_getElem hpL])
    refine ⟨L, ?_, rfl, fun _ _ _ ho => ho⟩
    rcases hx with hx | hx
    · exact absurd hx h0
    · rw [hx]
      cases wle A B <;> simp

theorem spec_below {s t : List Int} (hs : s.length ≤ 1000) (ht : t.length ≤ 1000) : ∀ (n : Nat) (A B : Wd), A.fl.length + B.fl.length ≤ n → (∀ d, 2 * (A.fl.length + B.fl.length) ≤ d → GivesA s t d A B) := by
  intro n
  induction n with
  | zero => intro A B h; have := A.pos; omega
  | succ n ih =>
    intro A B hn d hd
    have pa := A.pos
    have pb := B.pos
    cases d with
    | zero => omega
    | succ d =>
    have sub0 : ∀ A' B' : Wd, A'.fl.length + B'.fl.length < A.fl.length + B.fl.length → GivesF s t d A' B' := by
      intro A' B' h
      have := A'.pos
      cases d with
      | zero => omega
      | succ d => exact from_of hs ht (ih A' B' (by omega) d (by omega))
    intro i k L hA hB hL hok
    show SRes s t L (zz23 (R_zz22 d) (R_zz23 d) s t (i : Int) (k : Int) L) (wle A B)
    have sub : ∀ (A' B' : Wd), A'.fl.length + B'.fl.length < A.fl.length + B.fl.length → ∀ (i' k' : Nat) (M : List Int), At s i' A' → At t k' B' → i + k + 1 ≤ i' + k' → M.length = L.length → (∀ i' k', k' < t.length → OkL s t L i' k' → OkL s t M i' k') →
        ∃ M', R_zz22 d (s, t, (i' : Int), (k' : Int), M, ()) = some (wle A' B', (M', ())) ∧ M'.length = L.length ∧ ∀ i' k', k' < t.length → OkL s t L i' k' → OkL s t M' i' k' := by
      intro A' B' h i' k' M hA' hB' hle hM hk
      obtain ⟨M', q, l, o⟩ := sub0 A' B' h i' k' M hA' hB' (by rw [hM, hL]) (fun i2 k2 hk2 hle2 => hk i2 k2 hk2 (hok i2 k2 hk2 (by omega)))
      exact ⟨M', q, by rw [l, hM], fun i2 k2 hk2 ho => o i2 k2 hk2 (hk i2 k2 hk2 ho)⟩
    unfold zz23 zz23_s
    have hAl := hA.lt
    have hBl := hB.lt
    have okA := hA.1
    have okB := hB.1
    obtain ⟨x, hx⟩ : ∃ x, x = A.hd := ⟨_, rfl⟩
    obtain ⟨y, hy⟩ : ∃ y, y = B.hd := ⟨_, rfl⟩
    have hah := hA.head
    have hbh := hB.head
    rw [← hx] at hah
    rw [← hy] at hbh
    simp only [hah, hbh, Option.bind_some]
    rw [wrN (n := i) (by omega), wrN (n := k) (by omega)]
    cases A with
    | v x' =>
      have hx : x = x' := hx
      have hx0 : 0 ≤ x := by rw [hx]; exact okA.1
      cases B with
      | v y' =>
        have hy : y = y' := hy
        have hy0 : 0 ≤ y := by rw [hy]; exact okB.1
        rw [cdf (by omega), cdf (by omega), cdt hx0, cdt hy0]
        exact ⟨L, by simp [wle, hx, hy], rfl, fun _ _ _ h => h⟩
      | op g a b =>
        have hy : y = g := hy
        have hgo := okB.1
        obtain ⟨m1, q1, l1, o1⟩ := sub (.v x') a (by simp [Wd.fl]; omega) i (k + 1) L hA hB.left (by omega) rfl fun _ _ _ h => h
        obtain ⟨m2, q2, l2, o2⟩ := sub (.v x') b (by simp [Wd.fl]; omega) i (k + 1 + a.fl.length) m1 hA hB.right (by omega) l1 o1
        rw [cdf (by omega)]
        by_cases hg : y = -1
        · rw [cdt hg, q1]
          simp only [Option.bind_some]
          rw [specEnd_at (by omega) hB.left]
          simp only [Option.bind_some, q2]
          rw [wle, if_pos (by omega)]
          cases wle (.v x') a
          · exact ⟨m1, by simp, l1, o1⟩
          · exact ⟨m2, by simp, l2, o2⟩
        · rw [cdf hg, cdt hx0, cdf (by omega), cdf (by omega), cdt (by omega), q1]
          simp only [Option.bind_some]
          rw [specEnd_at (by omega) hB.left]
          simp only [Option.bind_some, q2]
          rw [wle, if_neg (by omega)]
          cases wle (.v x') a
          · exact ⟨m2, by simp, l2, o2⟩
          · exact ⟨m1, by simp, l1, o1⟩
    | op g a b =>
      have hx : x = g := hx
      have hgo := okA.1
      by_cases hg : x = -2
      · obtain ⟨m1, q1, l1, o1⟩ := sub a B (by simp [Wd.fl]; omega) (i + 1) k L hA.left hB (by omega) rfl fun _ _ _ h => h
        obtain ⟨m2, q2, l2, o2⟩ := sub b B (by simp [Wd.fl]; omega) (i + 1 + a.fl.length) k m1 hA.right hB (by omega) l1 o1
        rw [cdt hg, q1]
        simp only [Option.bind_some]
        rw [specEnd_at (by omega) hA.left]
        simp only [Option.bind_some, q2]
        have e : wle (.op g a b) B = (wle a B && wle b B) := by cases B <;> rw [wle, if_pos (by omega)]
        rw [e]
        cases wle a B
        · exact ⟨m1, by simp, l1, o1⟩
        · exact ⟨m2, by simp, l2, o2⟩
      · cases B with
        | v y' =>
          have hy : y = y' := hy
          have hy0 : 0 ≤ y := by rw [hy]; exact okB.1
          obtain ⟨m1, q1, l1, o1⟩ := sub a (.v y') (by simp [Wd.fl]; omega) (i + 1) k L hA.left hB (by omega) rfl fun _ _ _ h => h
          obtain ⟨m2, q2, l2, o2⟩ := sub b (.v y') (by simp [Wd.fl]; omega) (i + 1 + a.fl.length) k m1 hA.right hB (by omega) l1 o1
          rw [cdf hg, cdf (by omega), cdf (by omega), cdt (by omega), q1]
          simp only [Option.bind_some]
          rw [specEnd_at (by omega) hA.left]
          simp only [Option.bind_some, q2]
          rw [cdf (by omega), wle, if_neg (by omega)]
          cases wle a (.v y')
          · cases wle b (.v y')
            · exact ⟨m2, by simp, l2, o2⟩
            · exact ⟨m2, by simp, l2, o2⟩
          · exact ⟨m1, by simp, l1, o1⟩
        | op h c e =>
          have hy : y = h := hy
          have hho := okB.1
          rw [cdf hg]
          by_cases hh : y = -1
          · obtain ⟨m1, q1, l1, o1⟩ := sub (.op g a b) c (by simp [Wd.fl]; omega) i (k + 1) L hA hB.left (by omega) rfl fun _ _ _ h => h
            obtain ⟨m2, q2, l2, o2⟩ := sub (.op g a b) e (by simp [Wd.fl]; omega) i (k + 1 + c.fl.length) m1 hA hB.right (by omega) l1 o1
            rw [cdt hh, q1]
            simp only [Option.bind_some]
            rw [specEnd_at (by omega) hB.left]
            simp only [Option.bind_some, q2]
            rw [wle, if_neg (by omega), if_pos (by omega)]
            cases wle (.op g a b) c
            · exact ⟨m1, by simp, l1, o1⟩
            · exact ⟨m2, by simp, l2, o2⟩
          · obtain ⟨m1, q1, l1, o1⟩ := sub a (.op h c e) (by simp [Wd.fl]; omega) (i + 1) k L hA.left hB (by omega) rfl fun _ _ _ h => h
            obtain ⟨m2, q2, l2, o2⟩ := sub b (.op h c e) (by simp [Wd.fl]; omega) (i + 1 + a.fl.length) k m1 hA.right hB (by omega) l1 o1
            obtain ⟨m3, q3, l3, o3⟩ := sub (.op g a b) c (by simp [Wd.fl]; omega) i (k + 1) m2 hA hB.left (by omega) l2 o2
            obtain ⟨m4, q4, l4, o4⟩ := sub (.op g a b) e (by simp [Wd.fl]; omega) i (k + 1 + c.fl.length) m3 hA hB.right (by omega) l3 o3
            rw [cdf hh, cdf (by omega), cdt (show x = -1 by omega), q1]
            simp only [Option.bind_some]
            rw [specEnd_at (by omega) hA.left]
            simp only [Option.bind_some, q2]
            rw [cdt (show y = -2 by omega), q3]
            simp only [Option.bind_some]
            rw [specEnd_at (by omega) hB.left]
            simp only [Option.bind_some, q4]
            rw [wle, if_neg (by omega), if_neg (by omega)]
            cases wle a (.op h c e)
            · cases wle b (.op h c e)
              · cases wle (.op g a b) c
                · exact ⟨m4, by simp, l4, o4⟩
                · exact ⟨m3, by simp, l3, o3⟩
              · exact ⟨m2, by simp, l2, o2⟩
            · exact ⟨m1, by simp, l1, o1⟩

theorem l28Below_eq {A B : Wd} (hA : A.ok) (hB : B.ok) (ha : A.fl.length ≤ 40) (hb : B.fl.length ≤ 40) : zz25 A.fl B.fl = some (wle A B, ()) := by
  have hg := big_ge
  unfold zz25 zz25_s
  have h1 : A.fl.length * B.fl.length ≤ 40 * 40 := Nat.mul_le_mul ha hb
  have e : (A.fl.length : Int) * (B.fl.length : Int) = ((A.fl.length * B.fl.length : Nat) : Int) := by simp
  rw [e, wr (by omega) (by omega), mkI_nat _ _ (by omega), Option.bind_some, Option.bind_some, cdt (Int.le_refl _)]
  obtain ⟨d, hd⟩ : ∃ d, big = d + 1 := ⟨big - 1, by omega⟩
  have h := from_of (s := A.fl) (t := B.fl) (by omega) (by omega) (spec_below (by omega) (by omega) _ A B (Nat.le_refl _) d (by omega))
  obtain ⟨m', q, _⟩ := h 0 0 (List.replicate (A.fl.length * B.fl.length) 0) (At.zero hA) (At.zero hB) (by simp) (fun i k _ _ A B _ _ x hx => by
    rw [List.getElem?_replicate] at hx
    split at hx
    · cases hx; exact .inl rfl
    · cases hx)
  rw [hd]
  have q : R_zz22 (d + 1) (A.fl, B.fl, (0 : Int), (0 : Int), List.replicate (A.fl.length * B.fl.length) 0, ()) = some (wle A B, (m', ())) := q
  rw [q]
  rfl

theorem below_same {s t : List Int} (hs : isWord s = true) (ht : isWord t = true) : ∃ b, zz20 s t = some (b, ()) ∧ zz25 s t = some (b, ()) := by
  have ls := isWord_len hs
  have lt := isWord_len ht
  obtain ⟨A, hA, rfl⟩ := word_tree hs
  obtain ⟨B, hB, rfl⟩ := word_tree ht
  exact ⟨wle A B, wordBelow_eq hA hB ls lt, l28Below_eq hA hB ls lt⟩

theorem wordBelow_same (s t : List Int) : ∃ r, zz21 s t = some (r, ()) ∧ zz26 s t = some (r, ()) := by
  unfold zz21 zz21_s zz26 zz26_s
  rw [areWords_eq, l28Two_eq, Option.bind_some, Option.bind_some]
  cases h : isWord s && isWord t with
  | false => exact ⟨_, rfl, rfl⟩
  | true =>
    simp only [Bool.and_eq_true] at h
    obtain ⟨b, h1, h2⟩ := below_same h.1 h.2
    rw [h1, h2]
    exact ⟨_, rfl, rfl⟩

theorem isWord_fl {A : Wd} (h : A.ok) : isWord A.fl = decide (A.fl.length ≤ 40) := by
  have e : we A.fl 1 0 = some A.fl.length := by
    have := we_fl A h [] 0 0
    rw [List.append_nil, we_zero] at this
    rw [this]; simp
  rw [Bool.eq_iff_iff, isWord_iff, decide_eq_true_eq]
  exact ⟨fun h => h.1, fun h => ⟨h, e⟩⟩

def ea (E : List P2) (i : Nat) : Nat := (E.getD i (0, 0, ())).1.toNat

def eb (E : List P2) (i : Nat) : Nat := (E.getD i (0, 0, ())).2.1.toNat

def sAg (n m : Nat) (lp lq : Nat → Nat → Bool) (S : List Nat) (y z : Nat) : Prop :=
  (mt m lq y z < S.length → mt n lp (S.getD y 0) (S.getD z 0) = S.getD (mt m lq y z) 0) ∧ (mt m (du lq) y z < S.length → mt n (du lp) (S.getD y 0) (S.getD z 0) = S.getD (mt m (du lq) y z) 0)

def sAgr (n m : Nat) (lp lq : Nat → Nat → Bool) (S : List Nat) : Prop := ∀ y z, y < S.length → z < S.length → sAg n m lp lq S y z

noncomputable def sub (n m : Nat) (lp lq : Nat → Nat → Bool) : Nat → List Nat → Option (List Nat)
  | 0, S => some S
  | k + 1, S => (List.range n).findSome? fun x => if x ∈ S then none else bif tv (sAgr n m lp lq (S ++ [x])) then sub n m lp lq k (S ++ [x]) else none

theorem wle_joinL (a b C : Wd) : wle (.op (-2) a b) C = (wle a C && wle b C) := by
  cases C with
  | v m => rw [wle]; simp
  | op h c d => rw [wle]; simp

theorem wle_meetR {A : Wd} (hA : A.ok) (C D : Wd) : wle A (.op (-1) C D) = (wle A C && wle A D) := by
  induction A with
  | v n => rw [wle]; simp
  | op g a b iha ihb =>
    obtain ⟨hg, ha, hb⟩ := hA
    rcases hg with rfl | rfl
    · rw [wle]; simp
    · rw [wle_joinL, iha ha, ihb hb, wle_joinL, wle_joinL]
      cases wle a C <;> cases wle a D <;> cases wle b C <;> cases wle b D <;> rfl

theorem wle_joinR1 {A C : Wd} (hA : A.ok) (D : Wd) (h : wle A C = true) : wle A (.op (-2) C D) = true := by
  induction A with
  | v n => rw [wle]; simp [h]
  | op g a b iha ihb =>
    obtain ⟨hg, ha, hb⟩ := hA
    rcases hg with rfl | rfl
    · rw [wle]; simp [h]
    · rw [wle_joinL] at h ⊢
      rw [Bool.and_eq_true] at h
      rw [iha ha h.1, ihb hb h.2]; rfl

theorem wle_joinR2 {A D : Wd} (hA : A.ok) (C : Wd) (h : wle A D = true) : wle A (.op (-2) C D) = true := by
  induction A with
  | v n => rw [wle]; simp [h]
  | op g a b iha ihb =>
    obtain ⟨hg, ha, hb⟩ := hA
    rcases hg with rfl | rfl
    · rw [wle]; simp [h]
    · rw [wle_joinL] at h ⊢
      rw [Bool.and_eq_true] at h
      rw [iha ha h.1, ihb hb h.2]; rfl

theorem wle_meetL1 {A B C : Wd} (hA : A.ok) (hB : B.ok) (hC : C.ok) (h : wle A C = true) : wle (.op (-1) A B) C = true := by
  induction C with
  | v n => rw [wle]; simp [h]
  | op g c d ihc ihd =>
    obtain ⟨hg, hc, hd⟩ := hC
    rcases hg with rfl | rfl
    · rw [wle_meetR hA] at h
      rw [Bool.and_eq_true] at h
      rw [wle_meetR (show (Wd.op (-1) A B).ok from ⟨.inl rfl, hA, hB⟩), ihc hc h.1, ihd hd h.2]; rfl
    · rw [wle]; simp [h]

theorem wle_meetL2 {A B C : Wd} (hA : A.ok) (hB : B.ok) (hC : C.ok) (h : wle B C = true) : wle (.op (-1) A B) C = true := by
  induction C with
  | v n => rw [wle]; simp [h]
  | op g c d ihc ihd =>
    obtain ⟨hg, hc, hd⟩ := hC
    rcases hg with rfl | rfl
    · rw [wle_meetR hB] at h
      rw [Bool.and_eq_true] at h
      rw [wle_meetR (show (Wd.op (-1) A B).ok from ⟨.inl rfl, hA, hB⟩), ihc hc h.1, ihd hd h.2]; rfl
    · rw [wle]; simp [h]

theorem wle_refl {A : Wd} (h : A.ok) : wle A A = true := by
  induction A with
  | v n => rw [wle]; simp
  | op g a b iha ihb =>
    obtain ⟨hg, ha, hb⟩ := h
    rcases hg with rfl | rfl
    · rw [wle_meetR (show (Wd.op (-1) a b).ok from ⟨.inl rfl, ha, hb⟩), wle_meetL1 ha hb ha (iha ha), wle_meetL2 ha hb hb (ihb hb)]; rfl
    · rw [wle_joinL, wle_joinR1 ha b (iha ha), wle_joinR2 hb a (ihb hb)]; rfl

abbrev Cu := List Int × Int × Int × Unit

def COk (k : Nat) (c : Cu) : Prop := 0 ≤ c.2.1 ∧ c.2.1 + k ≤ 4611686018427387904 ∧ c.1.length ≤ 65536 ∧ ∀ x ∈ c.1, 0 ≤ x ∧ x ≤ 255

theorem and255 (x : Int) : ∃ n : Nat, n ≤ 255 ∧ bitI .and .u64 x 255 = (n : Int) := by
  refine ⟨(BitVec.ofInt IntKind.u64.bits x &&& BitVec.ofInt IntKind.u64.bits 255).toNat, ?_, ?_⟩
  · rw [BitVec.toNat_and]
    exact Nat.le_trans Nat.and_le_right (by decide)
  · have h : (BitVec.ofInt IntKind.u64.bits x &&& BitVec.ofInt IntKind.u64.bits 255).toNat ≤ 255 := by
      rw [BitVec.toNat_and]
      exact Nat.le_trans Nat.and_le_right (by decide)
    unfold bitI
    exact IntWalk.u64_in _ (by omega)

theorem cur_next {k : Nat} {c : Cu} (h : COk (k + 1) c) : ∃ v c', zz1 c = some (v, (c', ())) ∧ 0 ≤ v ∧ v ≤ 255 ∧ COk k c' := by
  obtain ⟨h0, h1, h2, h3⟩ := h
  obtain ⟨l, a, s, u⟩ := c
  simp only at h0 h1 h2 h3
  have hw : IntKind.i64.wrap (a + 1) = a + 1 := wr (by omega) (by omega)
  have key : ∀ s' : Int, COk k (l, a + 1, s', u) := fun s' => ⟨by show 0 ≤ a + 1; omega, by show a + 1 + k ≤ _; omega, h2, h3⟩
  have tail : ∀ s' : Int, ∃ v c', ((shrI IntKind.u64 s' (40 : Int)).bind fun xq => some (IntKind.i64.wrap (bitI .and IntKind.u64 xq (255 : Int)), ((l, a + 1, s', u), ()))) = some (v, (c', ())) ∧ 0 ≤ v ∧ v ≤ 255 ∧ COk k c' := by
    intro s'
    obtain ⟨n, hn, e⟩ := and255 (s'.fdiv (2 ^ min (40 : Int).toNat IntKind.u64.bits))
    unfold shrI
    rw [if_neg (by omega), Option.bind_some, e, wr (by omega) (by omega)]
    exact ⟨_, _, rfl, by omega, by omega, key s'⟩
  unfold zz1 zz1_s
  dsimp only
  rw [hw]
  by_cases ha : a < (l.length : Int)
  · rw [cdt ha]
    have hal : a.toNat < l.length := by omega
    have e : atI l a = some l[a.toNat] := by
      have := atI_lt l a.toNat hal
      rwa [show ((a.toNat : Nat) : Int) = a by omega] at this
    have hb := h3 _ (List.getElem_mem hal)
    rw [e, Option.bind_some]
    by_cases c : a + 1 ≤ (l.length : Int)
    · rw [cdt c, wr (by omega) (by omega)]
      exact ⟨_, _, rfl, hb.1, hb.2, key _⟩
    · rw [cdf c]
      exact tail _
  · rw [cdf ha]
    by_cases c : a + 1 ≤ (l.length : Int)
    · rw [cdt c]
      exact ⟨_, _, rfl, by omega, by omega, key _⟩
    · rw [cdf c]
      exact tail _

theorem COk.mono {k j : Nat} {c : Cu} (h : COk k c) (hj : j ≤ k) : COk j c := by
  obtain ⟨h0, h1, h2, h3⟩ := h
  exact ⟨h0, by omega, h2, h3⟩

theorem remI_pos {a n : Int} (ha : 0 ≤ a) (hn : 0 < n) : ∃ v, remI a n = some v ∧ 0 ≤ v ∧ v < n := by
  refine ⟨a.tmod n, ?_, Int.tmod_nonneg n ha, Int.tmod_lt_of_pos a hn⟩
  unfold remI
  rw [if_neg (by omega)]

theorem cur_pick {k : Nat} {c : Cu} (h : COk (k + 2) c) (n : Int) : ∃ v c', zz2 c n = some (v, (c', ())) ∧ 0 ≤ v ∧ (1 ≤ n → v < n) ∧ COk k c' := by
  unfold zz2 zz2_s
  by_cases h1 : n ≤ 1
  · rw [cdt h1]
    exact ⟨_, _, rfl, by omega, by omega, h.mono (by omega)⟩
  · obtain ⟨v, c1, e1, a1, a2, k1⟩ := cur_next (k := k + 1) h
    rw [cdf h1, e1, Option.bind_some]
    by_cases h2 : 200 < n
    · obtain ⟨v2, c2, e2, b1, b2, k2⟩ := cur_next k1
      rw [cdt h2]
      dsimp only
      rw [e2, Option.bind_some]
      dsimp only
      rw [wr (n := v * 256) (by omega) (by omega), wr (by omega) (by omega)]
      obtain ⟨z, ez, z0, z1⟩ := remI_pos (a := v * 256 + v2) (n := n) (by omega) (by omega)
      rw [ez, Option.bind_some]
      exact ⟨_, _, rfl, z0, fun _ => z1, k2⟩
    · rw [cdf h2]
      dsimp only
      obtain ⟨z, ez, z0, z1⟩ := remI_pos (a := v) (n := n) a1 (by omega)
      rw [ez, Option.bind_some]
      exact ⟨_, _, rfl, z0, fun _ => z1, k1.mono (by omega)⟩

theorem cur_one {k : Nat} {c : Cu} (h : COk (k + 2) c) (n : Int) : ∃ b c', zz4 c n = some (b, (c', ())) ∧ COk k c' := by
  obtain ⟨v, c1, e1, _, _, k1⟩ := cur_pick h n
  unfold zz4 zz4_s
  rw [e1, Option.bind_some]
  exact ⟨_, _, rfl, k1⟩

theorem cur_among {k : Nat} {c : Cu} (h : COk (k + 2) c) {l : List Int} (hl : l ≠ []) : ∃ v c', zz3 c l = some (v, (c', ())) ∧ v ∈ l ∧ COk k c' := by
  obtain ⟨v, c1, e1, h0, h1, k1⟩ := cur_pick h (l.length : Int)
  have hp := List.length_pos_iff.2 hl
  have hv := h1 (by omega)
  have hvl : v.toNat < l.length := by omega
  have e : atI l v = some l[v.toNat] := by
    have := atI_lt l v.toNat hvl
    rwa [show ((v.toNat : Nat) : Int) = v by omega] at this
  unfold zz3 zz3_s
  rw [e1, Option.bind_some]
  dsimp only
  rw [e, Option.bind_some]
  exact ⟨_, _, rfl, List.getElem_mem hvl, k1⟩

theorem put28 {g : Int} {a b : List Int} (h : a.length + b.length ≤ 1000000) : zz5 g a b = some (g :: (a ++ b), ()) := by
  unfold zz5 zz5_s
  rw [appI_ok (by simp; omega), Option.bind_some, appI_ok (by simp; omega), Option.bind_some]
  rfl

theorem cur_word28 : ∀ (n s k d : Nat) (c : Cu), s ≤ n → 1 ≤ s → s ≤ 1000 → s < d → COk (8 * s - 6 + k) c → ∃ w c', R_zz6 d (c, (s : Int), ()) = some (w, (c', ())) ∧ 1 ≤ w.length ∧ w.length + 1 ≤ 2 * s ∧ COk k c'
  | 0, s, k, d, c, hn, h1, _, _, _ => by omega
  | n + 1, s, k, 0, c, hn, h1, _, hd, _ => by omega
  | n + 1, s, k, d + 1, c, hn, h1, h3, hd, h => by
    show ∃ w c', zz6 (R_zz6 d) c (s : Int) = some (w, (c', ())) ∧ _
    unfold zz6 zz6_s
    by_cases hs : s = 1
    · obtain ⟨v, c1, e1, _, _, k1⟩ := cur_pick (k := k) (h.mono (by omega)) 4
      rw [cdt (by omega), e1, Option.bind_some]
      exact ⟨_, _, rfl, by simp, by simp; omega, k1⟩
    · rw [cdf (by omega)]
      obtain ⟨b, c1, e1, k1⟩ := cur_one (k := 8 * s - 8 + k) (h.mono (by omega)) 4
      rw [e1, Option.bind_some]
      dsimp only
      cases b with
      | true =>
        obtain ⟨v, c2, e2, _, _, k2⟩ := cur_pick (k := k) (k1.mono (by omega)) 4
        rw [cond_true, e2, Option.bind_some]
        exact ⟨_, _, rfl, by simp, by simp; omega, k2⟩
      | false =>
        rw [cond_false, wr (n := (s : Int) - 1) (by omega) (by omega)]
        obtain ⟨v, c2, e2, v0, v1, k2⟩ := cur_pick (k := 8 * s - 10 + k) (k1.mono (by omega)) ((s : Int) - 1)
        have hv := v1 (by omega)
        rw [e2, Option.bind_some]
        dsimp only
        obtain ⟨g, c3, e3, g0, g1, k3⟩ := cur_pick (k := 8 * s - 12 + k) (k2.mono (by omega)) 2
        have hg := g1 (by omega)
        rw [e3, Option.bind_some]
        dsimp only
        obtain ⟨m, rfl⟩ : ∃ m : Nat, v = (m : Int) := ⟨v.toNat, by omega⟩
        rw [wr (n := 1 + (m : Int)) (by omega) (by omega), show (1 + (m : Int)) = ((m + 1 : Nat) : Int) by omega, wr (n := (s : Int) - ((m + 1 : Nat) : Int)) (by omega) (by omega), show (s : Int) - ((m + 1 : Nat) : Int) = ((s - (m + 1) : Nat) : Int) by omega]
        obtain ⟨w1, c4, e4, a1, a2, k4⟩ := cur_word28 n (m + 1) (8 * (s - (m + 1)) - 6 + k) d c3 (by omega) (by omega) (by omega) (by omega) (k3.mono (by omega))
        rw [e4, Option.bind_some]
        dsimp only
        obtain ⟨w2, c5, e5, b1, b2, k5⟩ := cur_word28 n (s - (m + 1)) k d c4 (by omega) (by omega) (by omega) (by omega) k4
        rw [e5, Option.bind_some]
        dsimp only
        rw [put28 (by omega), Option.bind_some]
        exact ⟨_, _, rfl, by simp, by simp; omega, k5⟩

theorem cur_loop : ∀ (m j k : Nat) (c : Cu) (w : List Int), 42 ≤ w.length + j → j < m → w.length ≤ 100 → COk (6 * j + 2 + k) c → ∃ w' c', zz8_l10 big zz8_a10 m c w = some (w', (c', ())) ∧ w'.length ≤ 100 ∧ COk k c'
  | 0, j, k, c, w, _, hm, _, _ => by omega
  | m + 1, j, k, c, w, hj, hm, hl, h => by
    obtain ⟨v, c1, e1, v0, v1, k1⟩ := cur_pick (k := 6 * j + k) (h.mono (by omega)) 4
    have hv := v1 (by omega)
    simp only [zz8_l10, zz8_b10]
    rw [e1, Option.bind_some]
    dsimp only
    rw [wr (n := 38 + v) (by omega) (by omega)]
    by_cases hw : (w.length : Int) < 38 + v
    · obtain ⟨g, c2, e2, _, _, k2⟩ := cur_pick (k := 6 * j - 2 + k) (k1.mono (by omega)) 2
      obtain ⟨x, c3, e3, _, _, k3⟩ := cur_pick (k := 6 * j - 4 + k) (k2.mono (by omega)) 5
      rw [cdt hw, e2, Option.bind_some]
      dsimp only
      rw [e3, Option.bind_some]
      dsimp only
      rw [put28 (by simp; omega), Option.bind_some]
      exact cur_loop m (j - 1) k c3 _ (by simp; omega) (by omega) (by simp; omega) (k3.mono (by omega))
    · rw [cdf hw]
      exact ⟨_, _, rfl, hl, k1.mono (by omega)⟩

theorem cur_word {k : Nat} {c : Cu} (h : COk (400 + k) c) : ∃ w c', zz8 big c = some (w, (c', ())) ∧ w.length ≤ 100 ∧ COk k c' := by
  have hb := big_ge
  unfold zz8 zz8_s
  obtain ⟨s, c1, e1, hs, k1⟩ := cur_among (k := 398 + k) (h.mono (by omega)) (l := [(1 : Int), 2, 3, 4, 5, 6, 7]) (by simp)
  have hs1 : 1 ≤ s ∧ s ≤ 7 := by simp at hs; omega
  rw [e1, Option.bind_some]
  dsimp only
  obtain ⟨n, rfl⟩ : ∃ n : Nat, s = (n : Int) := ⟨s.toNat, by omega⟩
  obtain ⟨w, c2, e2, w0, w1, k2⟩ := cur_word28 n n (340 + k) big c1 (Nat.le_refl _) (by omega) (by omega) (by omega) (k1.mono (by omega))
  rw [e2, Option.bind_some]
  dsimp only
  obtain ⟨v, c3, e3, v0, v1, k3⟩ := cur_pick (k := 338 + k) (k2.mono (by omega)) 24
  rw [e3, Option.bind_some]
  dsimp only
  by_cases h0 : v = 0
  · obtain ⟨x, c4, e4, _, k4⟩ := cur_among (k := k) (k3.mono (by omega)) (l := [(0 : Int), -1]) (by simp)
    rw [cdt h0, e4, Option.bind_some]
    dsimp only
    rw [app1 (by omega), Option.bind_some]
    exact ⟨_, _, rfl, by simp; omega, k4⟩
  · rw [cdf h0]
    by_cases h1 : v = 1
    · obtain ⟨i, c4, e4, i0, i1, k4⟩ := cur_pick (k := 2 + k) (k3.mono (by omega)) (w.length : Int)
      obtain ⟨x, c5, e5, _, k5⟩ := cur_among (k := k) (k4.mono (by omega)) (l := [(-3 : Int), 5, 4, -1, 0]) (by simp)
      have hi := i1 (by omega)
      have hil : i.toNat < w.length := by omega
      have ea : atI w i = some w[i.toNat] := by
        have := atI_lt w i.toNat hil
        rwa [show ((i.toNat : Nat) : Int) = i by omega] at this
      rw [cdt h1, e4, Option.bind_some]
      dsimp only
      rw [e5, Option.bind_some, ea, Option.bind_some, List.getElem?_eq_getElem hil, Option.bind_some]
      exact ⟨_, _, rfl, by simp; omega, k5⟩
    · rw [cdf h1]
      by_cases h2 : v = 2
      · rw [cdt h2, show (1 : Int) = ((1 : Nat) : Int) from rfl, slI_nat w 1 w.length (by omega) (Nat.le_refl _), Option.bind_some]
        exact ⟨_, _, rfl, by simp; omega, k3.mono (by omega)⟩
      · rw [cdf h2]
        by_cases h3 : v = 3
        · rw [cdt h3]
          exact cur_loop big 42 k c3 w (by omega) (by omega) (by omega) (k3.mono (by omega))
        · rw [cdf h3]
          exact ⟨_, _, rfl, by omega, k3.mono (by omega)⟩

def Codes (code : List Int) : Prop := code.length ≤ 65536 ∧ ∀ x ∈ code, 0 ≤ x ∧ x ≤ 255

theorem Codes.start {code : List Int} (h : Codes code) : COk 10000 (code, (0 : Int), (0 : Int), ()) := ⟨Int.le_refl _, by show (0 : Int) + (10000 : Nat) ≤ _; omega, h.1, h.2⟩

theorem draw_below {code : List Int} (h : Codes code) : ∃ s t, zz13 code = some ((s, t, ()), ()) ∧ s.length ≤ 300 ∧ t.length ≤ 300 := by
  obtain ⟨s, c1, e1, h1, k1⟩ := cur_word (k := 9600) (h.start.mono (by omega))
  obtain ⟨t, c2, e2, h2, k2⟩ := cur_word (k := 9000) (k1.mono (by omega))
  unfold zz13 zz13_s
  rw [e1, Option.bind_some]
  dsimp only
  rw [e2, Option.bind_some]
  dsimp only
  rw [l28Two_eq, Option.bind_some]
  dsimp only
  cases isWord s && isWord t with
  | false => exact ⟨_, _, rfl, by omega, by omega⟩
  | true =>
    obtain ⟨v, c3, e3, _, _, _⟩ := cur_pick (k := 8000) (k2.mono (by omega)) 4
    rw [cond_true, e3, Option.bind_some]
    dsimp only
    by_cases v0 : v = 0
    · rw [cdt v0, put28 (by omega), Option.bind_some]
      exact ⟨_, _, rfl, by simp; omega, by omega⟩
    · rw [cdf v0]
      by_cases v1 : v = 1
      · rw [cdt v1, put28 (by omega), Option.bind_some]
        exact ⟨_, _, rfl, by omega, by simp; omega⟩
      · rw [cdf v1]
        exact ⟨_, _, rfl, by omega, by omega⟩

abbrev PTd := List (List Int) × Unit

def DrP (m : Nat) (p : PTd) : Prop := p.1.length ≤ m ∧ ∀ r ∈ p.1, r.length ≤ m

theorem elements_tot {n : Int} (h1 : -1000 ≤ n) (h2 : n ≤ 1000) {l : List Int} (hl : l.length ≤ 1000) : ∃ b, zz37 big n l = some (b, ()) ∧ (b = true → ∀ x ∈ l, 0 ≤ x ∧ x < n) := by
  unfold zz37 zz37_s
  refine zz37_q2 (Q := fun r => ∃ b, r = some (b, ()) ∧ (b = true → ∀ x ∈ l, 0 ≤ x ∧ x < n)) l.length (fun i => ∀ x ∈ l.take i, 0 ≤ x ∧ x < n) (by omega) (fun rc i hi hI hr => ?_) (fun rc hI => ?_) 0 (by omega) (by simp)
  · unfold zz37_b2
    rw [cdt (by omega), atI_lt l i hi, Option.bind_some, l1In_eq, Option.bind_some, wr (by omega) (by omega)]
    by_cases c : 0 ≤ l[i] ∧ l[i] ≤ n - 1
    · rw [decide_eq_true c]
      simp only [Bool.not_true, cond_false]
      rw [wr (by omega) (by omega)]
      refine hr fun x hx => ?_
      rw [List.take_succ_eq_append_getElem hi, List.mem_append, List.mem_singleton] at hx
      rcases hx with hx | rfl
      · exact hI x hx
      · omega
    · rw [decide_eq_false c]
      simp only [Bool.not_false, cond_true]
      exact ⟨_, rfl, fun h => by cases h⟩
  · unfold zz37_b2 zz37_a2
    rw [cdf (by omega)]
    refine ⟨_, rfl, fun _ => ?_⟩
    have hI : ∀ x ∈ l.take l.length, 0 ≤ x ∧ x < n := hI
    rwa [List.take_of_length_le (Nat.le_refl _)] at hI

theorem perm_tot {n : Nat} (hn : n ≤ 1000) {l : List Int} (hl : l.length ≤ 1000) : ∃ b, zz38 big l (n : Int) = some (b, ()) ∧ (b = true → l.length = n ∧ ∀ x ∈ l, 0 ≤ x ∧ x < n) := by
  unfold zz38 zz38_s
  by_cases h : (l.length : Int) ≠ (n : Int)
  · rw [cdt h]
    exact ⟨_, rfl, fun h => by cases h⟩
  · rw [cdf h]
    have hln : l.length = n := by omega
    obtain ⟨b, e, hb⟩ := elements_tot (n := (n : Int)) (by omega) (by omega) hl
    rw [e, Option.bind_some]
    cases b with
    | false => exact ⟨_, rfl, fun h => by cases h⟩
    | true =>
      have hb := hb rfl
      simp only [Bool.not_true, cond_false]
      rw [mkI_nat false n (by omega), Option.bind_some, Option.bind_some, cdt (by omega)]
      refine zz38_q5 (Q := fun r => ∃ b, r = some (b, ()) ∧ (b = true → l.length = n ∧ ∀ x ∈ l, 0 ≤ x ∧ x < n)) n (fun i s => s.length = n) (by omega) (fun rc i s hi hI hr => ?_) (fun rc s hI => ?_) 0 (by omega) _ (by simp)
      · unfold zz38_b5
        have hil : i < l.length := by omega
        have hx := hb _ (List.getElem_mem hil)
        have hxl : l[i].toNat < s.length := by rw [hI]; omega
        have ea : atI s l[i] = some s[l[i].toNat] := by
          have := atI_lt s l[i].toNat hxl
          rwa [show ((l[i].toNat : Nat) : Int) = l[i] by omega] at this
        rw [cdt (by omega), atI_lt l i hil, Option.bind_some, ea, Option.bind_some, List.getElem?_eq_getElem hxl, Option.bind_some]
        cases s[l[i].toNat] with
        | true => exact ⟨_, rfl, fun h => by cases h⟩
        | false =>
          rw [cond_false, Option.bind_some, ea, Option.bind_some, List.getElem?_eq_getElem hxl, Option.bind_some, wr (by omega) (by omega)]
          exact hr _ (by simpa using hI)
      · unfold zz38_b5 zz38_a5
        rw [cdf (by omega)]
        exact ⟨_, rfl, fun _ => ⟨hln, hb⟩⟩

theorem names2_tot {k n : Nat} (hn : n ≤ 1000) {c : Cu} (h : COk (k + 2 * n + 6) c) : ∃ l c', zz36 big c (n : Int) = some (l, (c', ())) ∧ l.length ≤ n + 1 ∧ COk k c' := by
  unfold zz36 zz36_s
  refine zz36_q3 (Q := fun r => ∃ l c', r = some (l, (c', ())) ∧ l.length ≤ n + 1 ∧ COk k c') n (fun i c l => l.length = i ∧ COk (k + 2 * (n - i) + 6) c) (by omega) (fun rc i c l hi hI hr => ?_) (fun rc c l hI => ?_) 0 (by omega) _ _ ⟨rfl, by simpa using h⟩
  · obtain ⟨hl, hc⟩ := hI
    unfold zz36_b3
    obtain ⟨v, c', e, v0, v1, hc'⟩ := cur_pick (k := k + 2 * (n - (i + 1)) + 6) (hc.mono (by omega)) ((l.length : Int) + 1)
    have hv := v1 (by omega)
    rw [cdt (by omega), wr (n := (l.length : Int) + 1) (by omega) (by omega), e, Option.bind_some]
    dsimp only
    have s1 : slI l 0 v = some ((l.drop 0).take (v - 0).toNat) := by unfold slI; rw [if_pos (by omega)]; rfl
    have s2 : slI l v (l.length : Int) = some ((l.drop v.toNat).take ((l.length : Int) - v).toNat) := by unfold slI; rw [if_pos (by omega)]
    rw [s1, Option.bind_some, appI_ok (by simp; omega), Option.bind_some, appI_ok (by simp; omega), Option.bind_some, s2, Option.bind_some, appI_ok (by simp; omega), Option.bind_some, wr (by omega) (by omega)]
    refine hr _ _ ⟨?_, hc'⟩
    simp
    omega
  · obtain ⟨hl, hc⟩ := hI
    unfold zz36_b3 zz36_a3
    rw [cdf (by omega)]
    obtain ⟨v, c', e, v0, v1, hc'⟩ := cur_pick (k := k + 4) (hc.mono (by omega)) 24
    rw [e, Option.bind_some]
    dsimp only
    by_cases h0 : v = 0
    · rw [cdt h0, appI_ok (by simp; omega), Option.bind_some]
      exact ⟨_, _, rfl, by simp [hl], hc'.mono (by omega)⟩
    · rw [cdf h0]
      by_cases h1 : v = 1
      · rw [cdt h1]
        by_cases h2 : (0 : Int) < n
        · rw [cdt h2]
          obtain ⟨v2, c2, e2, a0, a1, hc2⟩ := cur_pick (k := k + 2) (hc'.mono (by omega)) (n : Int)
          have ha := a1 (by omega)
          obtain ⟨v3, c3, e3, _, hc3⟩ := cur_among (k := k) hc2 (l := [(0 : Int), -1, (n : Int)]) (by simp)
          have hvl : v2.toNat < l.length := by omega
          have ea : atI l v2 = some l[v2.toNat] := by
            have := atI_lt l v2.toNat hvl
            rwa [show ((v2.toNat : Nat) : Int) = v2 by omega] at this
          rw [e2, Option.bind_some]
          dsimp only
          rw [e3, Option.bind_some]
          dsimp only
          rw [ea, Option.bind_some, List.getElem?_eq_getElem hvl, Option.bind_some]
          exact ⟨_, _, rfl, by simp [hl], hc3⟩
        · rw [cdf h2]
          exact ⟨_, _, rfl, by omega, hc'.mono (by omega)⟩
      · rw [cdf h1]
        exact ⟨_, _, rfl, by omega, hc'.mono (by omega)⟩

def MX (n : Nat) (m : List (List Bool)) : Prop := m.length = n ∧ (∀ r ∈ m, r.length = n) ∧ ∀ i, i < n → ∃ r, m[i]? = some r ∧ r[i]? = some true

theorem MX.set {n : Nat} {m : List (List Bool)} (h : MX n m) {x y : Nat} {r : List Bool} (hr : m[x]? = some r) {v : Bool} (hv : x = y → v = true) : MX n (m.set x (r.set y v)) := by
  obtain ⟨h1, h2, h3⟩ := h
  have hx := (List.getElem?_eq_some_iff.1 hr).1
  refine ⟨by simpa using h1, fun q hq => ?_, fun i hi => ?_⟩
  · rcases List.mem_or_eq_of_mem_set hq with hq | rfl
    · exact h2 q hq
    · rw [List.length_set]; exact h2 r (List.mem_of_getElem? hr)
  · obtain ⟨q, q1, q2⟩ := h3 i hi
    by_cases e : x = i
    · subst e
      rw [hr] at q1
      cases q1
      refine ⟨_, by rw [List.getElem?_set_self hx], ?_⟩
      by_cases e : y = x
      · subst e
        have hl : y < r.length := (List.getElem?_eq_some_iff.1 q2).1
        rw [List.getElem?_set_self hl, hv rfl]
      · rw [List.getElem?_set_ne e]; exact q2
    · exact ⟨q, by rw [List.getElem?_set_ne e]; exact q1, q2⟩

theorem MX.at {n : Nat} {m : List (List Bool)} (h : MX n m) {x y : Nat} (hx : x < n) (hy : y < n) : ∃ r v, m[x]? = some r ∧ atI m (x : Int) = some r ∧ r[y]? = some v ∧ atI r (y : Int) = some v ∧ (x = y → v = true) := by
  obtain ⟨h1, h2, h3⟩ := h
  have hl : x < m.length := by omega
  have hr := h2 _ (List.getElem_mem hl)
  have hyl : y < (m[x]).length := by omega
  refine ⟨m[x], (m[x])[y], List.getElem?_eq_getElem hl, atI_lt m x hl, List.getElem?_eq_getElem hyl, atI_lt _ y hyl, fun e => ?_⟩
  subst e
  obtain ⟨q, q1, q2⟩ := h3 x hx
  rw [List.getElem?_eq_getElem hl] at q1
  cases q1
  rw [List.getElem?_eq_getElem hyl] at q2
  exact Option.some.inj q2

def Fr (n : Nat) (r : Option (PTd × Unit)) : Prop := ∃ p : PTd, r = some (p, ()) ∧ p.1.length = n ∧ ∀ q ∈ p.1, 1 ≤ q.length ∧ q.length ≤ n

theorem from_rows {n : Nat} (hn : n ≤ 100) {t4 : PTd} {m : List (List Bool)} (hm : MX n m) : Fr n (zz39_F24 big (n : Int) t4 m ([], ()) (0 : Int)) := by
  refine zz39_q24 (Q := Fr n) n (fun i p => p.1.length = i ∧ ∀ q ∈ p.1, 1 ≤ q.length ∧ q.length ≤ n) (by omega) (fun rc i p hi hI hr => ?_) (fun rc p hI => ?_) 0 (by omega) _ ⟨rfl, by simp⟩
  · obtain ⟨hI1, hI2⟩ := hI
    unfold zz39_b24
    rw [cdt (by omega)]
    refine zz39_q28 (Q := Fr n) n (fun j b => b.length ≤ j ∧ (i < j → 1 ≤ b.length)) (by omega) (fun rc2 j b hj hJ hr2 => ?_) (fun rc2 b hJ => ?_) 0 (by omega) _ ⟨by simp, by omega⟩
    · unfold zz39_b28
      obtain ⟨r, v, e1, e2, e3, e4, e5⟩ := hm.at hj hi
      rw [cdt (by omega), e2, Option.bind_some, Int.toNat_natCast, e1, Option.bind_some, Option.bind_some, e4, Option.bind_some, Option.bind_some, Int.toNat_natCast, e3, Option.bind_some]
      cases v with
      | true =>
        rw [cond_true, appI_ok (by simp; omega), Option.bind_some, wr (by omega) (by omega)]
        exact hr2 _ ⟨by simp; omega, fun _ => by simp⟩
      | false =>
        rw [cond_false, wr (by omega) (by omega)]
        refine hr2 _ ⟨by omega, fun h => hJ.2 ?_⟩
        rcases Nat.lt_or_ge i j with h' | h'
        · exact h'
        · have : j = i := by omega
          exact absurd (e5 this) (by simp)
    · unfold zz39_b28 zz39_a28
      rw [cdf (by omega), appI_ok (by simp; omega), Option.bind_some, wr (by omega) (by omega)]
      refine hr _ ⟨by simp [hI1], fun q hq => ?_⟩
      rcases List.mem_append.1 hq with hq | hq
      · exact hI2 q hq
      · rw [List.mem_singleton] at hq
        subst hq
        exact ⟨hJ.2 hi, hJ.1⟩
  · unfold zz39_b24 zz39_a24
    rw [cdf (by omega)]
    exact ⟨_, rfl, hI.1, hI.2⟩

theorem from_close {n : Nat} (hn : n ≤ 100) {t4 : PTd} {m : List (List Bool)} (hm : MX n m) : Fr n (zz39_F13 big (n : Int) t4 m (0 : Int)) := by
  refine zz39_q13 (Q := Fr n) n (fun _ m => MX n m) (by omega) (fun rc z m hz hm hr => ?_) (fun rc m hm => ?_) 0 (by omega) _ hm
  · unfold zz39_b13
    rw [cdt (by omega)]
    refine zz39_q16 (Q := Fr n) n (fun _ m => MX n m) (by omega) (fun rc x m hx hm hr2 => ?_) (fun rc m hm => ?_) 0 (by omega) _ hm
    · unfold zz39_b16
      rw [cdt (by omega)]
      refine zz39_q19 (Q := Fr n) n (fun _ m => MX n m) (by omega) (fun rc y m hy hm hr3 => ?_) (fun rc m hm => ?_) 0 (by omega) _ hm
      · unfold zz39_b19
        obtain ⟨r, v, e1, e2, e3, e4, e5⟩ := hm.at hx hy
        obtain ⟨r', v', f1, f2, f3, f4, f5⟩ := hm.at hx hz
        rw [e1] at f1
        cases f1
        obtain ⟨s, u, g1, g2, g3, g4, g5⟩ := hm.at hz hy
        simp only [Int.toNat_natCast, cdt (show (y : Int) < n by omega), e1, e2, e3, e4, f3, f4, g1, g2, g3, g4, Option.bind_some]
        rw [wr (by omega) (by omega), show (y : Int) + 1 = ((y + 1 : Nat) : Int) by omega]
        cases v with
        | true =>
          rw [cond_true]
          exact hr3 _ (hm.set e1 fun _ => rfl)
        | false =>
          have hxy : x ≠ y := fun e => by have := e5 e; cases this
          rw [cond_false]
          cases v' with
          | true => rw [cond_true]; exact hr3 _ (hm.set e1 fun e => absurd e hxy)
          | false => rw [cond_false]; exact hr3 _ (hm.set e1 fun e => absurd e hxy)
      · unfold zz39_b19 zz39_a19
        rw [cdf (by omega), wr (by omega) (by omega)]
        exact hr2 _ hm
    · unfold zz39_b16 zz39_a16
      rw [cdf (by omega), wr (by omega) (by omega)]
      exact hr _ hm
  · unfold zz39_b13 zz39_a13
    rw [cdf (by omega)]
    exact from_rows hn hm

theorem from_tot {n : Nat} (hn : n ≤ 100) {ps : List (Int × (Int × Unit))} (hl : ps.length ≤ 100000) (hp : ∀ p ∈ ps, (0 ≤ p.1 ∧ p.1 < n) ∧ 0 ≤ p.2.1 ∧ p.2.1 < n) : Fr n (zz39 big (n : Int) ps) := by
  unfold zz39 zz39_s
  refine zz39_q3 (Q := Fr n) n (fun i m => m.length = i ∧ (∀ r ∈ m, r.length = n) ∧ ∀ j, j < i → ∃ r, m[j]? = some r ∧ r[j]? = some true) (by omega) (fun rc i m hi hI hr => ?_) (fun rc m hI => ?_) 0 (by omega) _ ⟨rfl, by simp, by omega⟩
  · obtain ⟨h1, h2, h3⟩ := hI
    unfold zz39_b3
    have hil : i < (List.replicate n false).length := by simpa using hi
    rw [cdt (by omega), mkI_nat false n (by omega), Option.bind_some, Option.bind_some, cdt (by omega), atI_lt _ i hil, Option.bind_some, Int.toNat_natCast, List.getElem?_eq_getElem hil, Option.bind_some, appI_ok (by simp; omega), Option.bind_some, wr (by omega) (by omega)]
    refine hr _ ⟨by simp [h1], fun r hr => ?_, fun j hj => ?_⟩
    · rcases List.mem_append.1 hr with hr | hr
      · exact h2 r hr
      · rw [List.mem_singleton] at hr; rw [hr]; simp
    · by_cases e : j < i
      · obtain ⟨r, r1, r2⟩ := h3 j e
        exact ⟨r, by rw [List.getElem?_append_left (by omega)]; exact r1, r2⟩
      · have e : j = i := by omega
        subst e
        refine ⟨_, by rw [List.getElem?_append_right (by omega), h1, Nat.sub_self]; rfl, ?_⟩
        rw [List.getElem?_set_self hil]
  · unfold zz39_b3 zz39_a3
    rw [cdf (by omega)]
    refine zz39_q9 (Q := Fr n) ps.length (fun _ m => MX n m) (by omega) (fun rc i m hi hm hr => ?_) (fun rc m hm => ?_) 0 (by omega) _ hI
    · unfold zz39_b9
      obtain ⟨⟨a0, a1⟩, b0, b1⟩ := hp _ (List.getElem_mem hi)
      generalize hq : ps[i] = q at a0 a1 b0 b1
      obtain ⟨x, y, u⟩ := q
      simp only at a0 a1 b0 b1
      obtain ⟨x, rfl⟩ : ∃ x' : Nat, x = (x' : Int) := ⟨x.toNat, by omega⟩
      obtain ⟨y, rfl⟩ : ∃ y' : Nat, y = (y' : Int) := ⟨y.toNat, by omega⟩
      obtain ⟨r, v, e1, e2, e3, e4, e5⟩ := hm.at (x := x) (y := y) (by omega) (by omega)
      have ea : atI ps (i : Int) = some ((x : Int), ((y : Int), u)) := by rw [atI_lt ps i hi, hq]
      simp only [Int.toNat_natCast, cdt (show (i : Int) < ps.length by omega), ea, e1, e2, e3, e4, Option.bind_some]
      rw [wr (by omega) (by omega)]
      exact hr _ (hm.set e1 fun _ => rfl)
    · unfold zz39_b9 zz39_a9
      rw [cdf (by omega)]
      exact from_close hn hm

theorem put_tot {l : List Int} (hl : l.length ≤ 1000000) (n : Int) : ∃ l', zz40 big l n = some (l', ()) ∧ l'.length ≤ l.length + 1 := by
  have done : ∀ i : Nat, i ≤ l.length → ∃ l', zz40_a2 l n (i : Int) = some (l', ()) ∧ l'.length ≤ l.length + 1 := by
    intro i hi
    unfold zz40_a2
    have s1 : slI l 0 (i : Int) = some ((l.drop 0).take i) := by unfold slI; rw [if_pos (by omega)]; simp
    have s2 : slI l (i : Int) (l.length : Int) = some ((l.drop i).take (l.length - i)) := by unfold slI; rw [if_pos (by omega), show ((l.length : Int) - (i : Int)).toNat = l.length - i by omega, Int.toNat_natCast]
    have tail : ∃ l', ((slI l 0 (i : Int)).bind fun xq8 => (appI [] xq8).bind fun xq9 => (appI xq9 [n]).bind fun xq10 => (slI l (i : Int) (l.length : Int)).bind fun xq11 => (appI xq10 xq11).bind fun xq12 => some (xq12, (()))) = some (l', ()) ∧ l'.length ≤ l.length + 1 := by
      rw [s1, Option.bind_some, appI_ok (by simp; omega), Option.bind_some, appI_ok (by simp; omega), Option.bind_some, s2, Option.bind_some, appI_ok (by simp; omega), Option.bind_some]
      exact ⟨_, rfl, by simp; omega⟩
    by_cases h : i < l.length
    · rw [cdt (by omega), atI_lt l i h, Option.bind_some]
      by_cases c : l[i] = n
      · rw [cdt c]; exact ⟨l, rfl, by omega⟩
      · rw [cdf c]; exact tail
    · rw [cdf (by omega)]; exact tail
  unfold zz40 zz40_s
  refine zz40_q2 (Q := fun r => ∃ l', r = some (l', ()) ∧ l'.length ≤ l.length + 1) l.length (fun _ => True) (by omega) (fun rc i hi _ hr => ?_) (fun rc _ => ?_) 0 (by omega) trivial
  · unfold zz40_b2
    rw [cdt (by omega), atI_lt l i hi, Option.bind_some]
    by_cases c : l[i] < n
    · rw [cdt c, wr (by omega) (by omega)]; exact hr trivial
    · rw [cdf c]; exact done i (by omega)
  · unfold zz40_b2
    rw [cdf (by omega)]
    exact done _ (by omega)

def Dq (m k : Nat) (r : Option (PTd × (Cu × Unit))) : Prop := ∃ p c', r = some (p, (c', ())) ∧ DrP m p ∧ COk k c'

theorem poset_long {k : Nat} {t2 : PTd} {p : PTd} {c : Cu} (hp : p.1.length ≤ 11) (hr : ∀ r ∈ p.1, r.length ≤ 12) (hc : COk (k + 2 * (12 - p.1.length) + 2) c) : Dq 12 k (zz41_F29 big c t2 p) := by
  refine zz41_v29 (Q := Dq 12 k) (fun _ p => 12 - p.1.length) (fun c p => p.1.length ≤ 11 ∧ (∀ r ∈ p.1, r.length ≤ 12) ∧ COk (k + 2 * (12 - p.1.length) + 2) c) (fun rc c p hI hrec => ?_) c p (by omega) ⟨hp, hr, hc⟩
  obtain ⟨h1, h2, h3⟩ := hI
  unfold zz41_b29 zz41_a29
  obtain ⟨v, c', e, v0, v1, hc'⟩ := cur_pick (k := k + 2 * (12 - p.1.length)) h3 2
  have hv := v1 (by omega)
  rw [e, Option.bind_some]
  dsimp only
  rw [wr (by omega) (by omega)]
  by_cases c : (p.1.length : Int) < 10 + v
  · rw [cdt c, appI_ok (by simp; omega), Option.bind_some]
    refine hrec _ _ ⟨by simp; omega, fun r hr => ?_, ?_⟩ (by simp; omega)
    · rcases List.mem_append.1 hr with hr | hr
      · exact h2 r hr
      · rw [List.mem_singleton] at hr; rw [hr]; simp
    · simp only [List.length_append, List.length_singleton]
      exact hc'.mono (by omega)
  · rw [cdf c]
    exact ⟨_, _, rfl, ⟨by omega, h2⟩, hc'.mono (by omega)⟩

theorem poset_end {k n : Nat} (hn : n ≤ 7) {t2 : PTd} {c : Cu} {ps : List (Int × (Int × Unit))} (hl : ps.length ≤ 1000) (hp : ∀ p ∈ ps, (0 ≤ p.1 ∧ p.1 < n) ∧ 0 ≤ p.2.1 ∧ p.2.1 < n) (hc : COk (k + 40) c) :
    Dq 12 k (zz41_a14 (zz41_F29 big) c t2 (n : Int) ps) := by
  obtain ⟨p, e, p1, p2⟩ := from_tot (n := n) (by omega) (by omega) hp
  have hd : DrP 12 p := ⟨by omega, fun r hr => by have := p2 r hr; omega⟩
  unfold zz41_a14
  rw [e, Option.bind_some]
  by_cases h0 : (n : Int) = 0
  · rw [cdt h0]
    exact ⟨_, _, rfl, hd, hc.mono (by omega)⟩
  · rw [cdf h0]
    obtain ⟨b, c1, e1, hc1⟩ := cur_one (k := k + 38) hc 16
    rw [e1, Option.bind_some]
    cases b with
    | false => exact ⟨_, _, rfl, hd, hc1.mono (by omega)⟩
    | true =>
      simp only [Bool.not_true, cond_false]
      obtain ⟨x, c2, e2, x0, x1, hc2⟩ := cur_pick (k := k + 36) hc1 (n : Int)
      have hx := x1 (by omega)
      obtain ⟨v, c3, e3, _, _, hc3⟩ := cur_pick (k := k + 34) hc2 4
      rw [e2, Option.bind_some]
      dsimp only
      rw [e3, Option.bind_some]
      dsimp only
      have hxl : x.toNat < p.1.length := by omega
      have ea : atI p.1 x = some p.1[x.toNat] := by
        have := atI_lt p.1 x.toNat hxl
        rwa [show ((x.toNat : Nat) : Int) = x by omega] at this
      have eb : p.1[x.toNat]? = some p.1[x.toNat] := List.getElem?_eq_getElem hxl
      have hrow := p2 _ (List.getElem_mem hxl)
      have upd : ∀ r : List Int, r.length ≤ 12 → DrP 12 (p.1.set x.toNat r, p.2) := fun r hr => ⟨by simp; omega, fun q hq => by
        rcases List.mem_or_eq_of_mem_set hq with hq | rfl
        · exact hd.2 q hq
        · exact hr⟩
      simp only [ea, eb, Option.bind_some]
      by_cases c0 : v = 0
      · rw [cdt c0]
        have s1 : slI p.1[x.toNat] (1 : Int) (p.1[x.toNat].length : Int) = some ((p.1[x.toNat].drop 1).take (p.1[x.toNat].length - 1)) := by unfold slI; rw [if_pos (by omega), show ((p.1[x.toNat].length : Int) - 1).toNat = p.1[x.toNat].length - 1 by omega]; rfl
        rw [s1, Option.bind_some]
        exact ⟨_, _, rfl, upd _ (by simp; omega), hc3.mono (by omega)⟩
      · rw [cdf c0]
        by_cases c1 : v = 1
        · rw [cdt c1, appI_ok (by simp; omega), Option.bind_some]
          exact ⟨_, _, rfl, upd _ (by simp; omega), hc3.mono (by omega)⟩
        · rw [cdf c1]
          by_cases c2' : v = 2
          · rw [cdt c2']
            obtain ⟨y, c4, e4, _, _, hc4⟩ := cur_pick (k := k + 32) hc3 (n : Int)
            obtain ⟨l', e5, hl'⟩ := put_tot (l := p.1[x.toNat]) (by omega) y
            rw [e4, Option.bind_some]
            dsimp only
            rw [e5, Option.bind_some]
            exact ⟨_, _, rfl, upd _ (by simp only; omega), hc4.mono (by omega)⟩
          · rw [cdf c2']
            by_cases c3' : v = 3
            · rw [cdt c3']
              exact poset_long (by omega) (fun r hr => by have := p2 r hr; omega) (hc3.mono (by omega))
            · rw [cdf c3']
              exact ⟨_, _, rfl, hd, hc3.mono (by omega)⟩

theorem ren_ok {n : Nat} {names : List Int} (hl : names.length = n) (hn : ∀ x ∈ names, 0 ≤ x ∧ x < n) {x : Int} (h0 : 0 ≤ x) (h1 : x < n) : ∃ v, atI names x = some v ∧ names[x.toNat]? = some v ∧ 0 ≤ v ∧ v < n := by
  have hx : x.toNat < names.length := by omega
  refine ⟨names[x.toNat], ?_, List.getElem?_eq_getElem hx, hn _ (List.getElem_mem hx)⟩
  have := atI_lt names x.toNat hx
  rwa [show ((x.toNat : Nat) : Int) = x by omega] at this

theorem poset_tot {k : Nat} {c : Cu} (hc : COk (k + 300) c) : Dq 12 k (zz41 big c) := by
  unfold zz41 zz41_s
  obtain ⟨n, c0, e, hn, hc0⟩ := cur_among (k := k + 298) hc (l := [(0 : Int), 1, 2, 3, 4, 4, 5, 5, 6, 7]) (by simp)
  rw [e, Option.bind_some]
  dsimp only
  obtain ⟨n, rfl⟩ : ∃ m : Nat, n = (m : Int) := ⟨n.toNat, by simp at hn; omega⟩
  have hn7 : n ≤ 7 := by simp at hn; omega
  refine zz41_q4 (Q := Dq 12 k) n (fun i c ps => ps.length ≤ i * n ∧ (∀ p ∈ ps, (0 ≤ p.1 ∧ p.1 < n) ∧ 0 ≤ p.2.1 ∧ p.2.1 < n) ∧ COk (k + 100 + 2 * (n * (n - i))) c) (by omega) (fun rc i c ps hi hI hr => ?_) (fun rc c ps hI => ?_) 0 (by omega) _ _ ⟨by simp, by simp, hc0.mono (by have : n * (n - 0) ≤ 7 * 7 := Nat.mul_le_mul hn7 (by omega); omega)⟩
  · obtain ⟨h1, h2, h3⟩ := hI
    unfold zz41_b4
    rw [cdt (by omega), wr (by omega) (by omega), show (i : Int) + 1 = ((i + 1 : Nat) : Int) by omega]
    have hmul : n * (n - i) = n * (n - (i + 1)) + n := by
      rw [show n - i = (n - (i + 1)) + 1 by omega, Nat.mul_succ]
    have hmul2 : (i + 1) * n = i * n + n := Nat.succ_mul i n
    refine zz41_q7 (Q := Dq 12 k) n (fun j c ps => ps.length ≤ i * n + j ∧ (∀ p ∈ ps, (0 ≤ p.1 ∧ p.1 < n) ∧ 0 ≤ p.2.1 ∧ p.2.1 < n) ∧ COk (k + 100 + 2 * (n * (n - (i + 1))) + 2 * (n - j)) c) (by omega) (fun rc2 j c ps hj hJ hr2 => ?_) (fun rc2 c ps hJ => ?_) (i + 1) (by omega) _ _ ⟨by omega, h2, h3.mono (by omega)⟩
    · obtain ⟨j1, j2, j3⟩ := hJ
      unfold zz41_b7
      obtain ⟨b, c', e, hc'⟩ := cur_one (k := k + 100 + 2 * (n * (n - (i + 1))) + 2 * (n - (j + 1))) (j3.mono (by omega)) 3
      have hin : i * n ≤ 7 * 7 := Nat.mul_le_mul (by omega) hn7
      rw [cdt (by omega), e, Option.bind_some, wr (by omega) (by omega)]
      cases b with
      | true =>
        rw [cond_true, appI_ok (by simp; omega), Option.bind_some]
        refine hr2 _ _ ⟨by simp; omega, fun p hp => ?_, hc'⟩
        rcases List.mem_append.1 hp with hp | hp
        · exact j2 p hp
        · rw [List.mem_singleton] at hp
          rw [hp]
          exact ⟨⟨by simp, by simp; omega⟩, by simp, by simp; omega⟩
      | false =>
        rw [cond_false]
        exact hr2 _ _ ⟨by omega, j2, hc'⟩
    · obtain ⟨j1, j2, j3⟩ := hJ
      unfold zz41_b7 zz41_a7
      rw [cdf (by omega), wr (by omega) (by omega)]
      exact hr _ _ ⟨by omega, j2, j3.mono (by omega)⟩
  · obtain ⟨h1, h2, h3⟩ := hI
    have hnn : n * n ≤ 7 * 7 := Nat.mul_le_mul hn7 hn7
    unfold zz41_b4 zz41_a4
    rw [cdf (by omega)]
    obtain ⟨names, c1, e1, hl1, hc1⟩ := names2_tot (k := k + 60) (n := n) (by omega) (h3.mono (by omega))
    obtain ⟨b, e2, hb⟩ := perm_tot (n := n) (by omega) (l := names) (by omega)
    rw [e1, Option.bind_some]
    dsimp only
    rw [e2, Option.bind_some]
    cases b with
    | false =>
      rw [cond_false]
      exact poset_end hn7 (by omega) h2 (hc1.mono (by omega))
    | true =>
      obtain ⟨hb1, hb2⟩ := hb rfl
      obtain ⟨b, c2, e3, hc2⟩ := cur_one (k := k + 58) hc1 2
      rw [cond_true, e3, Option.bind_some]
      cases b with
      | false =>
        rw [cond_false]
        exact poset_end hn7 (by omega) h2 (hc2.mono (by omega))
      | true =>
        rw [cond_true]
        refine zz41_q14 (Q := Dq 12 k) ps.length (fun _ qs => qs.length = ps.length ∧ ∀ p ∈ qs, (0 ≤ p.1 ∧ p.1 < n) ∧ 0 ≤ p.2.1 ∧ p.2.1 < n) (by omega) (fun rc2 i qs hi hI hr => ?_) (fun rc2 qs hI => ?_) 0 (by omega) _ ⟨rfl, h2⟩
        · obtain ⟨i1, i2⟩ := hI
          have hil : i < qs.length := by omega
          obtain ⟨⟨a0, a1⟩, b0, b1⟩ := i2 _ (List.getElem_mem hil)
          obtain ⟨x, x1, x2, x3, x4⟩ := ren_ok hb1 hb2 a0 a1
          obtain ⟨y, y1, y2, y3, y4⟩ := ren_ok hb1 hb2 b0 b1
          unfold zz41_b14
          simp only [Int.toNat_natCast, cdt (show (i : Int) < qs.length by omega), atI_lt qs i hil, List.getElem?_eq_getElem hil, x1, x2, y1, y2, Option.bind_some]
          rw [wr (by omega) (by omega)]
          refine hr _ ⟨by simpa using i1, fun p hp => ?_⟩
          rcases List.mem_or_eq_of_mem_set hp with hp | rfl
          · exact i2 p hp
          · exact ⟨⟨x3, x4⟩, y3, y4⟩
        · obtain ⟨i1, i2⟩ := hI
          unfold zz41_b14
          rw [cdf (by omega)]
          exact poset_end hn7 (by omega) i2 (hc2.mono (by omega))

def okKnown (k : Nat) : Bool := match zz43 (k : Int) with
  | some (p, ()) => decide (p.1.length ≤ 9) && p.1.all (fun r => decide (r.length ≤ 9)) && (match zz48 big p with
    | some (ps, ()) => decide (ps.length ≤ 100) && ps.all fun q => decide (0 ≤ q.1) && decide (q.1 < (p.1.length : Int)) && decide (0 ≤ q.2.1) && decide (q.2.1 < (p.1.length : Int))
    | none => false)
  | none => false

theorem okKnown_all : (List.range 12).all okKnown = true := by kernel_rfl

theorem known_tot {k : Int} (h0 : 0 ≤ k) (h1 : k < 12) : ∃ p ps, zz43 k = some (p, ()) ∧ DrP 9 p ∧ zz48 big p = some (ps, ()) ∧ ps.length ≤ 100 ∧ ∀ q ∈ ps, (0 ≤ q.1 ∧ q.1 < p.1.length) ∧ 0 ≤ q.2.1 ∧ q.2.1 < p.1.length := by
  have h := List.all_eq_true.1 okKnown_all k.toNat (List.mem_range.2 (by omega))
  unfold okKnown at h
  rw [show ((k.toNat : Nat) : Int) = k by omega] at h
  split at h
  case h_2 => cases h
  rename_i p e
  simp only [Bool.and_eq_true, decide_eq_true_eq, List.all_eq_true] at h
  obtain ⟨⟨h1, h2⟩, h3⟩ := h
  split at h3
  case h_2 => cases h3
  rename_i ps e2
  simp only [Bool.and_eq_true, decide_eq_true_eq, List.all_eq_true] at h3
  exact ⟨p, ps, e, ⟨h1, h2⟩, e2, h3.1, fun q hq => by
    obtain ⟨⟨⟨a, b⟩, c⟩, d⟩ := h3.2 q hq
    exact ⟨⟨a, b⟩, c, d⟩⟩

theorem lattice_tot {k : Nat} {c : Cu} (hc : COk (k + 400) c) : Dq 12 k (zz49 big c) := by
  unfold zz49 zz49_s
  obtain ⟨b, c1, e1, hc1⟩ := cur_one (k := k + 398) hc 10
  rw [e1, Option.bind_some]
  cases b with
  | true =>
    rw [cond_true]
    obtain ⟨p, c2, e2, hp, hc2⟩ := poset_tot (k := k + 98) hc1
    rw [e2, Option.bind_some]
    exact ⟨_, _, rfl, hp, hc2.mono (by omega)⟩
  | false =>
    rw [cond_false]
    obtain ⟨v, c2, e2, v0, v1, hc2⟩ := cur_pick (k := k + 396) hc1 12
    obtain ⟨p, ps, e3, hp, e4, hl, hps⟩ := known_tot v0 (v1 (by omega))
    have hp' : DrP 12 p := ⟨by have := hp.1; omega, fun r hr => by have := hp.2 r hr; omega⟩
    have hn := hp.1
    obtain ⟨names, c3, e5, hl1, hc3⟩ := names2_tot (k := k + 300) (n := p.1.length) (by omega) (hc2.mono (by omega))
    obtain ⟨b, e6, hb⟩ := perm_tot (n := p.1.length) (by omega) (l := names) (by omega)
    rw [e2, Option.bind_some]
    dsimp only
    rw [e3, Option.bind_some]
    dsimp only
    rw [e5, Option.bind_some]
    dsimp only
    rw [e6, Option.bind_some]
    cases b with
    | false => exact ⟨_, _, rfl, hp', hc3.mono (by omega)⟩
    | true =>
      obtain ⟨hb1, hb2⟩ := hb rfl
      obtain ⟨b, c4, e7, hc4⟩ := cur_one (k := k + 298) hc3 2
      rw [cond_true, e7, Option.bind_some]
      cases b with
      | false => exact ⟨_, _, rfl, hp', hc4.mono (by omega)⟩
      | true =>
        rw [cond_true, e4, Option.bind_some]
        refine zz49_q9 (Q := Dq 12 k) ps.length (fun _ qs => qs.length = ps.length ∧ ∀ q ∈ qs, (0 ≤ q.1 ∧ q.1 < p.1.length) ∧ 0 ≤ q.2.1 ∧ q.2.1 < p.1.length) (by omega) (fun rc2 i qs hi hI hr => ?_) (fun rc2 qs hI => ?_) 0 (by omega) _ ⟨rfl, hps⟩
        · obtain ⟨i1, i2⟩ := hI
          have hil : i < qs.length := by omega
          obtain ⟨⟨a0, a1⟩, b0, b1⟩ := i2 _ (List.getElem_mem hil)
          obtain ⟨x, x1, x2, x3, x4⟩ := ren_ok hb1 hb2 a0 a1
          obtain ⟨y, y1, y2, y3, y4⟩ := ren_ok hb1 hb2 b0 b1
          unfold zz49_b9
          simp only [Int.toNat_natCast, cdt (show (i : Int) < qs.length by omega), atI_lt qs i hil, List.getElem?_eq_getElem hil, x1, x2, y1, y2, Option.bind_some]
          rw [wr (by omega) (by omega)]
          refine hr _ ⟨by simpa using i1, fun q hq => ?_⟩
          rcases List.mem_or_eq_of_mem_set hq with hq | rfl
          · exact i2 q hq
          · exact ⟨⟨x3, x4⟩, y3, y4⟩
        · obtain ⟨i1, i2⟩ := hI
          unfold zz49_b9 zz49_a9
          obtain ⟨p', e8, p1, p2⟩ := from_tot (n := p.1.length) (by omega) (by omega) i2
          rw [cdf (by omega), e8, Option.bind_some]
          exact ⟨_, _, rfl, ⟨by show p'.1.length ≤ 12; omega, fun r hr => by have := p2 r hr; omega⟩, hc4.mono (by omega)⟩

theorem point23_tot {k : Nat} {c : Cu} (hc : COk (k + 4) c) {p : PTd} (hp : p.1.length ≤ 1000) : ∃ v c', zz50 c p = some (v, (c', ())) ∧ -1 ≤ v ∧ v ≤ p.1.length ∧ COk k c' := by
  unfold zz50 zz50_s
  by_cases h : (p.1.length : Int) = 0
  · obtain ⟨v, c1, e, hv, hc1⟩ := cur_among (k := k + 2) hc (l := [(-1 : Int), (p.1.length : Int)]) (by simp)
    rw [cdt h, e, Option.bind_some]
    refine ⟨_, _, rfl, ?_, ?_, hc1.mono (by omega)⟩ <;> (simp at hv; simp only; omega)
  · obtain ⟨b, c1, e, hc1⟩ := cur_one (k := k + 2) hc 24
    rw [cdf h, e, Option.bind_some]
    cases b with
    | true =>
      obtain ⟨v, c2, e, hv, hc2⟩ := cur_among (k := k) hc1 (l := [(-1 : Int), (p.1.length : Int)]) (by simp)
      rw [cond_true, e, Option.bind_some]
      refine ⟨_, _, rfl, ?_, ?_, hc2⟩ <;> (simp at hv; simp only; omega)
    | false =>
      obtain ⟨v, c2, e, v0, v1, hc2⟩ := cur_pick (k := k) hc1 (p.1.length : Int)
      have := v1 (by omega)
      rw [cond_false, e, Option.bind_some]
      exact ⟨_, _, rfl, by simp only; omega, by simp only; omega, hc2⟩

theorem codes_of {code : List Int} (hw : Wf (.pair (.sl (.int .u8)) .unit) (code, ())) (h : code.length ≤ 65536) : Codes code := by
  refine ⟨h, fun x hx => ?_⟩
  have := hw.1.2 x hx
  have h2 : (Lit.int .u8 x).wf = true := this
  simp only [Lit.wf, Bool.and_eq_true, decide_eq_true_eq] at h2
  have e1 : IntKind.u8.min = 0 := rfl
  have e2 : IntKind.u8.max = 255 := rfl
  rw [e1, e2] at h2
  exact h2

theorem atMost_pos {n : Nat} {le : Nat → Nat → Bool} (h10 : n ≤ 10) (ho : Ord n le) {x y : Nat} (hx : x < n) (hy : y < n) : zz80 (pos n le) (x : Int) (y : Int) = some ((le x y, true, ()), ()) := by
  unfold zz80 zz80_s
  have hh : ([(x : Int), (y : Int)]).all (inB n) = true := by simp [inB]; omega
  rw [orderOf_pos h10 ho, Option.bind_some]
  dsimp only
  rw [Bool.not_true, cond_false, has_eq _ (by simp), Option.bind_some, hh]
  simp only [Bool.not_true, cond_false, atI_mkR hx, Int.toNat_natCast, get_mkR hx, Option.bind_some, atI_mkR hy, get_mkR hy]

theorem draw_value {code : List Int} (hc : Codes code) : ∃ p w E, zz51 big code = some ((p, w, E, ()), ()) ∧ DrP 12 p ∧ w.length ≤ 100 ∧ E.length ≤ 5 := by
  obtain ⟨p, c1, e1, hp, hc1⟩ := lattice_tot (k := 9600) hc.start
  have hpl := hp.1
  unfold zz51 zz51_s
  rw [e1, Option.bind_some]
  refine zz51_q5 (Q := fun r => ∃ p w E, r = some ((p, w, E, ()), ()) ∧ DrP 12 p ∧ w.length ≤ 100 ∧ E.length ≤ 5) 5 (fun i c E => E.length = i ∧ COk (9000 + 4 * (5 - i)) c) (by omega) (fun rc i c E hi hI hr => ?_) (fun rc c E hI => ?_) 0 (by omega) _ _ ⟨rfl, hc1.mono (by omega)⟩
  · obtain ⟨h1, h2⟩ := hI
    unfold zz51_b5
    obtain ⟨v, c', e, _, _, hc'⟩ := point23_tot (k := 9000 + 4 * (5 - (i + 1))) (h2.mono (by omega)) (p := p) (by omega)
    rw [cdt (by omega), e, Option.bind_some, appI_ok (by simp; omega), Option.bind_some, wr (by omega) (by omega)]
    exact hr _ _ ⟨by simp [h1], hc'⟩
  · obtain ⟨h1, h2⟩ := hI
    unfold zz51_b5 zz51_a5
    obtain ⟨b, c2, e2, hc2⟩ := cur_one (k := 8900) (h2.mono (by omega)) 20
    obtain ⟨w, c3, e3, hw, _⟩ := cur_word (k := 8000) (hc2.mono (by omega))
    rw [cdf (by omega), e2, Option.bind_some]
    dsimp only
    cases b with
    | true =>
      have s1 : slI E (1 : Int) (E.length : Int) = some ((E.drop 1).take (E.length - 1)) := by unfold slI; rw [if_pos (by omega), show ((E.length : Int) - 1).toNat = E.length - 1 by omega]; rfl
      rw [cond_true, s1, Option.bind_some, e3, Option.bind_some]
      exact ⟨_, _, _, rfl, hp, hw, by simp; omega⟩
    | false =>
      rw [cond_false, e3, Option.bind_some]
      exact ⟨_, _, _, rfl, hp, hw, by omega⟩

def wv (n : Nat) (le : Nat → Nat → Bool) (E : List Nat) : Wd → Nat
  | .v k => E.getD k.toNat 0
  | .op g a b => if g = -1 then mt n le (wv n le E a) (wv n le E b) else mt n (du le) (wv n le E a) (wv n le E b)

theorem wv_meet {n : Nat} {le : Nat → Nat → Bool} {E : List Nat} (a b : Wd) : wv n le E (.op (-1) a b) = mt n le (wv n le E a) (wv n le E b) := by simp [wv]

theorem wv_join {n : Nat} {le : Nat → Nat → Bool} {E : List Nat} (a b : Wd) : wv n le E (.op (-2) a b) = mt n (du le) (wv n le E a) (wv n le E b) := by simp [wv]

theorem wv_lt {n : Nat} {le : Nat → Nat → Bool} (h : LatP n le) {E : List Nat} (hE : ∀ x ∈ E, x < n) (h5 : E.length = 5) : ∀ {A : Wd}, A.ok → wv n le E A < n
  | .v k, hk => by
    have : k.toNat < E.length := by have := hk.1; have := hk.2; omega
    unfold wv
    rw [List.getD_eq_getElem?_getD, List.getElem?_eq_getElem this]
    exact hE _ (List.getElem_mem this)
  | .op g a b, hk => by
    unfold wv
    have h1 := wv_lt h hE h5 hk.2.1
    have h2 := wv_lt h hE h5 hk.2.2
    split
    · exact h.mlt h1 h2
    · exact h.du.mlt h1 h2

theorem parts_fl2 {g : Int} {a b : Wd} (ha : a.ok) (hl : (a.fl ++ b.fl).length ≤ 1000000) : zz64 (g :: (a.fl ++ b.fl)) = some ((a.fl, b.fl, ()), ()) := by
  have e : we (a.fl ++ b.fl) 1 1 = some (1 + a.fl.length) := by rw [we_fl a ha, we_zero]
  have := (parts_eq (x := g) hl e (by simp)).2
  rw [show 1 + a.fl.length - 1 = a.fl.length by omega] at this
  simpa using this

theorem value_tree {n : Nat} {le : Nat → Nat → Bool} (h : LatP n le) {E : List Nat} (hE : ∀ x ∈ E, x < n) (h5 : E.length = 5) : ∀ (A : Wd) (d : Nat), A.ok → A.fl.length ≤ 1000 → A.fl.length ≤ d → R_zz65 d (some (lat n le), A.fl, cs E, ()) = some ((wv n le E A : Int), ())
  | .v k, d, hk, hl, hd => by
    obtain ⟨d, rfl⟩ : ∃ q, d = q + 1 := ⟨d - 1, by simp [Wd.fl] at hd; omega⟩
    have hkn : k.toNat < E.length := by have := hk.1; have := hk.2; omega
    have ae : atI (cs E) k = some ((E[k.toNat] : Nat) : Int) := by
      have := atI_cs hkn
      rwa [show ((k.toNat : Nat) : Int) = k by have := hk.1; omega] at this
    have a0 : atI [k] (0 : Int) = some k := rfl
    simp only [Wd.fl, R_zz65, zz65, zz65_s, a0, Option.bind_some, cdt hk.1, ae, wv]
    rw [List.getD_eq_getElem?_getD, List.getElem?_eq_getElem hkn]; rfl
  | .op g a b, d, hk, hl, hd => by
    obtain ⟨hg, ha, hb⟩ := hk
    simp only [Wd.fl, List.length_cons, List.length_append] at hl hd
    obtain ⟨d, rfl⟩ : ∃ q, d = q + 1 := ⟨d - 1, by omega⟩
    have i1 := value_tree h hE h5 a d ha (by omega) (by omega)
    have i2 := value_tree h hE h5 b d hb (by omega) (by omega)
    have l1 := wv_lt h hE h5 ha
    have l2 := wv_lt h hE h5 hb
    have a0 : atI (g :: (a.fl ++ b.fl)) (0 : Int) = some g := rfl
    have hp := parts_fl2 (g := g) (b := b) ha (by simp; omega)
    simp only [Wd.fl, R_zz65, zz65, zz65_s, a0, Option.bind_some, cdf (show ¬ 0 ≤ g by omega), hp, i1, i2, wv]
    by_cases hm : g = -1
    · rw [cdt hm, if_pos hm]; simp only [lat2, atI_mkR l1, atI_mkR l2, Option.bind_some]
    · rw [cdf hm, if_neg hm]; simp only [lat3, atI_mkR l1, atI_mkR l2, Option.bind_some]

theorem wordValue_cases (p : PT) (hp : ∀ r ∈ p.1, r.length ≤ 4294967296) (E : List Int) (hE : E.length ≤ 1048576) :
    (∃ n le F, p = pos n le ∧ LatP n le ∧ (∀ x ∈ F, x < n) ∧ F.length = 5 ∧ ∀ A : Wd, A.ok → A.fl.length ≤ 40 → zz67 p A.fl E = some ((((wv n le F A : Nat) : Int), true, ()), ())) ∨
    (∀ A : Wd, A.ok → A.fl.length ≤ 40 → ∃ x, zz67 p A.fl E = some ((x, false, ()), ())) := by
  have hbig := big_ge
  rcases lat_cases hp with ⟨n, le, e, h, h1, h2⟩ | ⟨h1, l, h2⟩
  · subst e
    have h10 := h.le10
    by_cases h5 : E.length = 5
    · cases ha : E.all (inB n) with
      | false =>
        right
        intro A hA hl
        unfold zz67 zz67_s
        have hw := isWord_fl hA
        rw [decide_eq_true hl] at hw
        rw [h2, Option.bind_some]
        simp only [Bool.not_true, cond_false, implIsWord_eq, Option.bind_some, hw, cdf (show ¬ ((E.length : Int) ≠ 5) by omega), lat1, has_eq E (show E.length ≤ 4294967296 by omega), ha, Bool.not_false, cond_true]
        exact ⟨_, rfl⟩
      | true =>
        obtain ⟨F, e1, hF⟩ := allB_form ha
        subst e1
        rw [cs_len] at h5
        refine .inl ⟨n, le, F, rfl, h, hF, h5, fun A hA hl => ?_⟩
        unfold zz67 zz67_s
        have hw := isWord_fl hA
        rw [decide_eq_true hl] at hw
        rw [h2, Option.bind_some]
        simp only [Bool.not_true, cond_false, implIsWord_eq, Option.bind_some, hw, cs_len, cdf (show ¬ ((F.length : Int) ≠ 5) by omega), lat1, has_eq (cs F) (show (cs F).length ≤ 4294967296 by rw [cs_len]; omega), ha]
        rw [value_tree h hF h5 A big hA (by omega) (by omega), Option.bind_some]
    · right
      intro A hA hl
      unfold zz67 zz67_s
      have hw := isWord_fl hA
      rw [decide_eq_true hl] at hw
      rw [h2, Option.bind_some]
      simp only [Bool.not_true, cond_false, implIsWord_eq, Option.bind_some, hw, cdt (show ((E.length : Int) ≠ 5) by omega)]
      exact ⟨_, rfl⟩
  · right
    intro A hA hl
    unfold zz67 zz67_s
    rw [h2, Option.bind_some]
    exact ⟨_, rfl⟩

theorem wv_mono {n : Nat} {le : Nat → Nat → Bool} (h : LatP n le) {E : List Nat} (hE : ∀ x ∈ E, x < n) (h5 : E.length = 5) : ∀ (k : Nat) (A B : Wd), A.fl.length + B.fl.length ≤ k → A.ok → B.ok → wle A B = true → le (wv n le E A) (wv n le E B) = true := by
  intro k
  induction k with
  | zero => intro A B hk; have := A.pos; omega
  | succ k ih =>
    intro A B hk hA hB hw
    have lA := wv_lt h hE h5 hA
    have lB := wv_lt h hE h5 hB
    have meetR : ∀ {c d : Wd}, c.ok → d.ok → le (wv n le E A) (wv n le E c) = true → le (wv n le E A) (wv n le E d) = true → le (wv n le E A) (wv n le E (.op (-1) c d)) = true := fun {c d} hc hd h1 h2 => by
      rw [wv_meet]; exact h.mg (wv_lt h hE h5 hc) (wv_lt h hE h5 hd) lA h1 h2
    have joinR1 : ∀ {c d : Wd}, c.ok → d.ok → le (wv n le E A) (wv n le E c) = true → le (wv n le E A) (wv n le E (.op (-2) c d)) = true := fun {c d} hc hd h1 => by
      rw [wv_join]
      have lc := wv_lt h hE h5 hc
      have ld := wv_lt h hE h5 hd
      exact h.tr lA lc (h.du.mlt lc ld) h1 (h.du.m1 lc ld)
    have joinR2 : ∀ {c d : Wd}, c.ok → d.ok → le (wv n le E A) (wv n le E d) = true → le (wv n le E A) (wv n le E (.op (-2) c d)) = true := fun {c d} hc hd h1 => by
      rw [wv_join]
      have lc := wv_lt h hE h5 hc
      have ld := wv_lt h hE h5 hd
      exact h.tr lA ld (h.du.mlt lc ld) h1 (h.du.m2 lc ld)
    cases A with
    | v x =>
      cases B with
      | v m =>
        rw [wle] at hw
        rw [of_decide_eq_true hw]
        exact h.ord.refl _ lB
      | op g c d =>
        obtain ⟨hg, hc, hd⟩ := hB
        simp only [Wd.fl, List.length_cons, List.length_append] at hk
        have e1 := ih (.v x) c (by simp only [Wd.fl, List.length_cons]; omega) hA hc
        have e2 := ih (.v x) d (by simp only [Wd.fl, List.length_cons]; omega) hA hd
        rcases hg with rfl | rfl
        · rw [wle_meetR hA, Bool.and_eq_true] at hw
          exact meetR hc hd (e1 hw.1) (e2 hw.2)
        · rw [wle] at hw
          rw [if_neg (by omega), Bool.or_eq_true] at hw
          rcases hw with hw | hw
          · exact joinR1 hc hd (e1 hw)
          · exact joinR2 hc hd (e2 hw)
    | op g a b =>
      obtain ⟨hg, ha, hb⟩ := hA
      have la := wv_lt h hE h5 ha
      have lb := wv_lt h hE h5 hb
      simp only [Wd.fl, List.length_cons, List.length_append] at hk
      have pa := a.pos
      have pb := b.pos
      have e1 := ih a B (by omega) ha hB
      have e2 := ih b B (by omega) hb hB
      rcases hg with rfl | rfl
      · have L1 : le (wv n le E a) (wv n le E B) = true → le (wv n le E (.op (-1) a b)) (wv n le E B) = true := fun q => by
          rw [wv_meet]; exact h.tr (h.mlt la lb) la lB (h.m1 la lb) q
        have L2 : le (wv n le E b) (wv n le E B) = true → le (wv n le E (.op (-1) a b)) (wv n le E B) = true := fun q => by
          rw [wv_meet]; exact h.tr (h.mlt la lb) lb lB (h.m2 la lb) q
        cases B with
        | v m =>
          rw [wle] at hw
          rw [if_neg (by omega), Bool.or_eq_true] at hw
          rcases hw with hw | hw
          · exact L1 (e1 hw)
          · exact L2 (e2 hw)
        | op h' c d =>
          obtain ⟨hh, hc, hd⟩ := hB
          simp only [Wd.fl, List.length_cons, List.length_append] at hk
          have oA : (Wd.op (-1) a b).ok := ⟨.inl rfl, ha, hb⟩
          have e3 := ih (.op (-1) a b) c (by simp only [Wd.fl, List.length_cons, List.length_append]; omega) oA hc
          have e4 := ih (.op (-1) a b) d (by simp only [Wd.fl, List.length_cons, List.length_append]; omega) oA hd
          rcases hh with rfl | rfl
          · rw [wle_meetR oA, Bool.and_eq_true] at hw
            exact meetR hc hd (e3 hw.1) (e4 hw.2)
          · rw [wle] at hw
            rw [if_neg (by omega), if_neg (by omega), Bool.or_eq_true, Bool.or_eq_true, Bool.or_eq_true] at hw
            rcases hw with (hw | hw) | (hw | hw)
            · exact L1 (e1 hw)
            · exact L2 (e2 hw)
            · exact joinR1 hc hd (e3 hw)
            · exact joinR2 hc hd (e4 hw)
      · rw [wle_joinL, Bool.and_eq_true] at hw
        rw [wv_join]
        exact h.du.mg la lb lB (e1 hw.1) (e2 hw.2)

def Wd.dual : Wd → Wd
  | .v n => .v n
  | .op g a b => .op (-3 - g) a.dual b.dual

theorem dual_ok : ∀ {A : Wd}, A.ok → A.dual.ok
  | .v n, h => h
  | .op g a b, h => ⟨by rcases h.1 with e | e <;> rw [e] <;> simp, dual_ok h.2.1, dual_ok h.2.2⟩

theorem dual_fl : ∀ {A : Wd}, A.ok → A.dual.fl = A.fl.map dual1
  | .v n, h => by
    have h1 := h.1
    simp only [Wd.dual, Wd.fl, List.map_cons, List.map_nil, dual1]
    rw [if_neg (by omega)]
  | .op g a b, h => by
    simp only [Wd.dual, Wd.fl, List.map_cons, List.map_append, dual_fl h.2.1, dual_fl h.2.2]
    congr 1
    rcases h.1 with e | e <;> rw [e] <;> rfl

theorem dual_len {A : Wd} (h : A.ok) : A.dual.fl.length = A.fl.length := by rw [dual_fl h, List.length_map]

theorem wle_dual : ∀ (k : Nat) (A B : Wd), A.fl.length + B.fl.length ≤ k → A.ok → B.ok → wle A B = true → wle B.dual A.dual = true := by
  intro k
  induction k with
  | zero => intro A B hk; have := A.pos; omega
  | succ k ih =>
    intro A B hk hA hB hw
    have dA := dual_ok hA
    have dB := dual_ok hB
    cases A with
    | v x =>
      cases B with
      | v m =>
        rw [wle] at hw
        rw [of_decide_eq_true hw]
        exact wle_refl dB
      | op g c d =>
        obtain ⟨hg, hc, hd⟩ := hB
        simp only [Wd.fl, List.length_cons, List.length_append] at hk
        have e1 := ih (.v x) c (by simp only [Wd.fl, List.length_cons]; omega) hA hc
        have e2 := ih (.v x) d (by simp only [Wd.fl, List.length_cons]; omega) hA hd
        rcases hg with rfl | rfl
        · rw [wle_meetR hA, Bool.and_eq_true] at hw
          show wle (.op (-2) c.dual d.dual) _ = true
          rw [wle_joinL, Bool.and_eq_true]
          exact ⟨e1 hw.1, e2 hw.2⟩
        · rw [wle] at hw
          rw [if_neg (by omega), Bool.or_eq_true] at hw
          show wle (.op (-1) c.dual d.dual) _ = true
          rcases hw with hw | hw
          · exact wle_meetL1 (dual_ok hc) (dual_ok hd) dA (e1 hw)
          · exact wle_meetL2 (dual_ok hc) (dual_ok hd) dA (e2 hw)
    | op g a b =>
      obtain ⟨hg, ha, hb⟩ := hA
      simp only [Wd.fl, List.length_cons, List.length_append] at hk
      have pa := a.pos
      have pb := b.pos
      have e1 := ih a B (by omega) ha hB
      have e2 := ih b B (by omega) hb hB
      have da := dual_ok ha
      have db := dual_ok hb
      rcases hg with rfl | rfl
      · show wle _ (.op (-2) a.dual b.dual) = true
        cases B with
        | v m =>
          rw [wle] at hw
          rw [if_neg (by omega), Bool.or_eq_true] at hw
          rcases hw with hw | hw
          · exact wle_joinR1 dB _ (e1 hw)
          · exact wle_joinR2 dB _ (e2 hw)
        | op h' c d =>
          obtain ⟨hh, hc, hd⟩ := hB
          simp only [Wd.fl, List.length_cons, List.length_append] at hk
          have oA : (Wd.op (-1) a b).ok := ⟨.inl rfl, ha, hb⟩
          have oA' : (Wd.op (-2) a.dual b.dual).ok := ⟨.inr rfl, da, db⟩
          have e3 := ih (.op (-1) a b) c (by simp only [Wd.fl, List.length_cons, List.length_append]; omega) oA hc
          have e4 := ih (.op (-1) a b) d (by simp only [Wd.fl, List.length_cons, List.length_append]; omega) oA hd
          rcases hh with rfl | rfl
          · rw [wle_meetR oA, Bool.and_eq_true] at hw
            show wle (.op (-2) c.dual d.dual) _ = true
            rw [wle_joinL, Bool.and_eq_true]
            exact ⟨e3 hw.1, e4 hw.2⟩
          · rw [wle] at hw
            rw [if_neg (by omega), if_neg (by omega), Bool.or_eq_true, Bool.or_eq_true, Bool.or_eq_true] at hw
            rcases hw with (hw | hw) | (hw | hw)
            · exact wle_joinR1 dB _ (e1 hw)
            · exact wle_joinR2 dB _ (e2 hw)
            · show wle (.op (-1) c.dual d.dual) _ = true
              exact wle_meetL1 (dual_ok hc) (dual_ok hd) oA' (e3 hw)
            · show wle (.op (-1) c.dual d.dual) _ = true
              exact wle_meetL2 (dual_ok hc) (dual_ok hd) oA' (e4 hw)
      · rw [wle_joinL, Bool.and_eq_true] at hw
        show wle _ (.op (-1) a.dual b.dual) = true
        rw [wle_meetR dB, Bool.and_eq_true]
        exact ⟨e1 hw.1, e2 hw.2⟩

theorem dual_dual : ∀ A : Wd, A.dual.dual = A
  | .v n => rfl
  | .op g a b => by simp only [Wd.dual, dual_dual a, dual_dual b]; congr 1; omega

theorem wle_dual_eq {A B : Wd} (hA : A.ok) (hB : B.ok) : wle B.dual A.dual = wle A B := by
  cases h : wle A B with
  | true => exact wle_dual _ A B (Nat.le_refl _) hA hB h
  | false =>
    cases h2 : wle B.dual A.dual with
    | false => rfl
    | true =>
      have := wle_dual _ B.dual A.dual (Nat.le_refl _) (dual_ok hB) (dual_ok hA) h2
      rw [dual_dual, dual_dual, h] at this
      cases this

theorem below_words {A B : Wd} (hA : A.ok) (hB : B.ok) (la : A.fl.length ≤ 40) (lb : B.fl.length ≤ 40) : zz21 A.fl B.fl = some ((wle A B, true, ()), ()) := by
  unfold zz21 zz21_s
  rw [areWords_eq, Option.bind_some, isWord_fl hA, isWord_fl hB, decide_eq_true la, decide_eq_true lb, wordBelow_eq hA hB la lb]
  rfl

theorem equal_words {A B : Wd} (hA : A.ok) (hB : B.ok) (la : A.fl.length ≤ 40) (lb : B.fl.length ≤ 40) : zz34 A.fl B.fl = some ((wle A B && wle B A, true, ()), ()) := by
  unfold zz34 zz34_s zz33 zz33_s
  rw [areWords_eq, Option.bind_some, isWord_fl hA, isWord_fl hB, decide_eq_true la, decide_eq_true lb, wordBelow_eq hA hB la lb, wordBelow_eq hB hA lb la]
  cases wle A B <;> rfl

theorem words_tail {code : List Int} (hc : Codes code) {A B : Wd} (hA : A.ok) (hB : B.ok) (la : A.fl.length ≤ 40) (lb : B.fl.length ≤ 40) :
    ((zz51 big code).bind fun rq17 =>
  (zz67 rq17.1.1 A.fl rq17.1.2.2.1).bind fun rq18 =>
  (zz79 rq17.1.1 A.fl rq17.1.2.2.1).bind fun rq19 =>
  cond (decide (rq18.1.1 ≠ rq19.1.1))
  (some (false, (())))
  (cond (rq18.1.2.1 != rq19.1.2.1)
  (some (false, (())))
  ((zz67 rq17.1.1 B.fl rq17.1.2.2.1).bind fun rq20 =>
  (zz79 rq17.1.1 B.fl rq17.1.2.2.1).bind fun rq21 =>
  cond (decide (rq20.1.1 ≠ rq21.1.1))
  (some (false, (())))
  (cond (rq20.1.2.1 != rq21.1.2.1)
  (some (false, (())))
  (cond rq18.1.2.1
  (cond rq20.1.2.1
  (cond (wle A B)
  ((zz80 rq17.1.1 rq18.1.1 rq20.1.1).bind fun rq22 =>
  cond (!rq22.1.2.1)
  (some (false, (())))
  (cond (!rq22.1.1)
  (some (false, (())))
  (some (true, (())))))
  (some (true, (()))))
  (some (true, (()))))
  (some (true, (())))))))) = some (true, ()) := by
  obtain ⟨p, w, E, e, hp, hw, hE⟩ := draw_value hc
  have hrows : ∀ r ∈ p.1, r.length ≤ 4294967296 := fun r hr => by have := hp.2 r hr; omega
  obtain ⟨v1, s1, i1⟩ := wordValue_eq p A.fl E hrows (by omega)
  obtain ⟨v2, s2, i2⟩ := wordValue_eq p B.fl E hrows (by omega)
  rw [e, Option.bind_some]
  dsimp only
  rw [i1, Option.bind_some, s1, Option.bind_some, cdf (by simp), show (v1.2.1 != v1.2.1) = false by simp, cond_false, i2, Option.bind_some, s2, Option.bind_some, cdf (by simp), show (v2.2.1 != v2.2.1) = false by simp, cond_false]
  rcases wordValue_cases p hrows E (by omega) with ⟨n, le, F, rfl, h, hF, h5, hv⟩ | hv
  · have q1 := hv A hA la
    have q2 := hv B hB lb
    rw [i1] at q1
    rw [i2] at q2
    cases q1
    cases q2
    cases hwl : wle A B with
    | false => rfl
    | true =>
      simp only [cond_true]
      have l1 := wv_lt h hF h5 hA
      have l2 := wv_lt h hF h5 hB
      rw [atMost_pos h.le10 h.ord l1 l2, Option.bind_some, wv_mono h hF h5 _ A B (Nat.le_refl _) hA hB hwl]
      rfl
  · obtain ⟨x, q1⟩ := hv A hA la
    rw [i1] at q1
    cases q1
    rfl

theorem true_FnWords (code : List Int) (hw : Wf (.pair (.sl (.int .u8)) .unit) (code, ())) : laws_FnWords code = some (true, ()) := by
  unfold laws_FnWords laws_FnWords_s zz0 zz0_s
  rw [Option.bind_some]
  dsimp only
  by_cases hl : code.length ≤ 65536
  case neg => rw [cdt (by omega)]
  have hc := codes_of hw hl
  obtain ⟨s, t, e1, hs, ht⟩ := draw_below hc
  rw [cdf (by omega), e1, Option.bind_some]
  dsimp only
  by_cases hwd : isWord s = true ∧ isWord t = true
  case neg =>
    have hb : zz21 s t = some ((false, false, ()), ()) := by
      unfold zz21 zz21_s
      rw [areWords_eq, Option.bind_some]
      cases h1 : isWord s with
      | false => rfl
      | true =>
        cases h2 : isWord t with
        | false => rfl
        | true => exact absurd ⟨h1, h2⟩ hwd
    obtain ⟨r, r1, r2⟩ := wordBelow_same s t
    rw [hb] at r1
    cases r1
    rw [hb, Option.bind_some, r2, Option.bind_some, implIsWord_eq, Option.bind_some]
    cases h1 : isWord s with
    | false => rfl
    | true =>
      cases h2 : isWord t with
      | false => rw [implIsWord_eq, h2]; rfl
      | true => exact absurd ⟨h1, h2⟩ hwd
  obtain ⟨h1, h2⟩ := hwd
  have la := isWord_len h1
  have lb := isWord_len h2
  obtain ⟨A, hA, rfl⟩ := word_tree h1
  obtain ⟨B, hB, rfl⟩ := word_tree h2
  have tl := words_tail hc hA hB la lb
  have hb := below_words hA hB la lb
  obtain ⟨r, r1, r2⟩ := wordBelow_same A.fl B.fl
  rw [hb] at r1
  cases r1
  have dA := dual_ok hA
  have dB := dual_ok hB
  have lda : A.dual.fl.length ≤ 40 := by rw [dual_len hA]; exact la
  have ldb : B.dual.fl.length ≤ 40 := by rw [dual_len hB]; exact lb
  have hd1 : dualV A.fl = (A.dual.fl, true, ()) := by unfold dualV; rw [if_pos h1, dual_fl hA]
  have hd2 : dualV B.fl = (B.dual.fl, true, ()) := by unfold dualV; rw [if_pos h2, dual_fl hB]
  have hJ : combined (-2) A.fl B.fl = if A.fl.length + B.fl.length + 1 ≤ 40 then ((Wd.op (-2) A B).fl, true, ()) else ([], false, ()) := by
    unfold combined; rw [h1, h2]; by_cases c : A.fl.length + B.fl.length + 1 ≤ 40 <;> simp [c, Wd.fl]
  have hM : combined (-1) A.fl B.fl = if A.fl.length + B.fl.length + 1 ≤ 40 then ((Wd.op (-1) A B).fl, true, ()) else ([], false, ()) := by
    unfold combined; rw [h1, h2]; by_cases c : A.fl.length + B.fl.length + 1 ≤ 40 <;> simp [c, Wd.fl]
  rw [hb, Option.bind_some, r2, Option.bind_some]
  dsimp only
  rw [show (wle A B != wle A B) = false by simp, cond_false, show (true != true) = false from rfl, cond_false, implIsWord_eq, Option.bind_some, h1, cond_true, implIsWord_eq, Option.bind_some, h2]
  dsimp only
  rw [show (true != true) = false from rfl, cond_false, cond_true, implDualWord_eq, Option.bind_some, implDualWord_eq, Option.bind_some, hd1, hd2]
  dsimp only
  rw [below_words dB dA ldb lda, Option.bind_some, wle_dual_eq hA hB]
  simp only [Bool.not_true, cond_false, show (wle A B != wle A B) = false by simp]
  rw [implMeet_eq, Option.bind_some, hM, implJoin_eq, Option.bind_some, hJ]
  by_cases c : A.fl.length + B.fl.length + 1 ≤ 40
  · have oM : (Wd.op (-1) A B).ok := ⟨.inl rfl, hA, hB⟩
    have oJ : (Wd.op (-2) A B).ok := ⟨.inr rfl, hA, hB⟩
    have lM : (Wd.op (-1) A B).fl.length ≤ 40 := by simp only [Wd.fl, List.length_cons, List.length_append]; omega
    have lJ : (Wd.op (-2) A B).fl.length ≤ 40 := by simp only [Wd.fl, List.length_cons, List.length_append]; omega
    rw [if_pos c, if_pos c]
    dsimp only
    rw [cond_true, cond_true, below_words oM hA lM la, Option.bind_some, below_words oM hB lM lb, Option.bind_some, equal_words oM hA lM la, Option.bind_some, below_words hA oJ la lJ, Option.bind_some, equal_words oJ hB lJ lb, Option.bind_some]
    rw [wle_meetL1 hA hB hA (wle_refl hA), wle_meetL2 hA hB hB (wle_refl hB), wle_meetR hA, wle_refl hA, wle_joinR1 hA B (wle_refl hA), wle_joinL, wle_refl hB, wle_joinR2 hB A (wle_refl hB)]
    simp only [Bool.not_true, cond_false, Bool.true_and, Bool.and_true, show (wle A B != wle A B) = false by simp]
    exact tl
  · rw [if_neg c, if_neg c]
    simp only [cond_false]
    exact tl

theorem cmp_mem {n : Nat} {le : Nat → Nat → Bool} {x y : Nat} : y ∈ comp n le x ↔ y < n ∧ mt n le y x = bt n le ∧ mt n (du le) y x = tp n le := by
  unfold comp rel
  rw [fl_mem, Bool.and_eq_true, decide_eq_true_eq, decide_eq_true_eq]

theorem le_bt {n : Nat} {le : Nat → Nat → Bool} (h : LatP n le) {x : Nat} (hx : x < n) (e : le x (bt n le) = true) : x = bt n le := h.as hx (bt_lt h) e (bt_le h hx)

theorem tp_le {n : Nat} {le : Nat → Nat → Bool} (h : LatP n le) {x : Nat} (hx : x < n) (e : le (tp n le) x = true) : x = tp n le := h.as hx (tp_lt h) (le_tp h hx) e

theorem cenA {n : Nat} {le : Nat → Nat → Bool} (h : LatP n le) {x y w : Nat} (hx : x < n) (hy : y < n) (hw : w < n) (hc : Cen n le x y) {u : Nat} (hu : u < n) (h1 : le (mt n le w x) u = true) (h2 : le (mt n le w y) u = true) : le w u = true := by
  have := (hc w hw).1
  rw [← this]
  exact jg h (h.mlt hw hx) (h.mlt hw hy) hu h1 h2

theorem cenBm {n : Nat} {le : Nat → Nat → Bool} (h : LatP n le) {x y w : Nat} (hx : x < n) (hy : y < n) (hw : w < n) (hc : Cen n le x y) {u : Nat} (hu : u < n) (h1 : le u (mt n (du le) w x) = true) (h2 : le u (mt n (du le) w y) = true) : le u w = true := by
  have := (hc w hw).2
  rw [← this]
  exact h.mg (jlt h hw hx) (jlt h hw hy) hu h1 h2

theorem cen_of {n : Nat} {le : Nat → Nat → Bool} (h : LatP n le) {x y : Nat} (hx : x < n) (hy : y < n) (hA : ∀ w u, w < n → u < n → le (mt n le w x) u = true → le (mt n le w y) u = true → le w u = true)
    (hB : ∀ w u, w < n → u < n → le u (mt n (du le) w x) = true → le u (mt n (du le) w y) = true → le u w = true) : Cen n le x y := fun z hz => by
  have a1 := h.mlt hz hx
  have a2 := h.mlt hz hy
  have b1 := jlt h hz hx
  have b2 := jlt h hz hy
  exact ⟨h.as (jlt h a1 a2) hz (jg h a1 a2 hz (h.m1 hz hx) (h.m1 hz hy)) (hA z _ hz (jlt h a1 a2) (j1 h a1 a2) (j2 h a1 a2)),
    h.as (h.mlt b1 b2) hz (hB z _ hz (h.mlt b1 b2) (h.m1 b1 b2) (h.m2 b1 b2)) (h.mg b1 b2 hz (j1 h hz hx) (j1 h hz hy))⟩

theorem Cen.dual {n : Nat} {le : Nat → Nat → Bool} {x y : Nat} (hc : Cen n le x y) : Cen n (du le) x y := fun z hz => ⟨(hc z hz).2, (hc z hz).1⟩

theorem comp_dual {n : Nat} {le : Nat → Nat → Bool} {x y : Nat} : y ∈ comp n (du le) x ↔ y ∈ comp n le x := by
  rw [cmp_mem, cmp_mem]
  exact ⟨fun ⟨a, b, c⟩ => ⟨a, c, b⟩, fun ⟨a, b, c⟩ => ⟨a, c, b⟩⟩

structure CP (n : Nat) (le : Nat → Nat → Bool) (x y : Nat) : Prop where
  lx : x < n
  c : y ∈ comp n le x
  z : Cen n le x y

theorem CP.ly {n : Nat} {le : Nat → Nat → Bool} {x y : Nat} (p : CP n le x y) : y < n := (cmp_mem.1 p.c).1

theorem CP.dual {n : Nat} {le : Nat → Nat → Bool} {x y : Nat} (p : CP n le x y) : CP n (du le) x y := ⟨p.lx, comp_dual.2 p.c, p.z.dual⟩

theorem CP.meet {n : Nat} {le : Nat → Nat → Bool} (h : LatP n le) {x x' a a' : Nat} (p : CP n le x x') (q : CP n le a a') : CP n le (mt n le x a) (mt n (du le) x' a') := by
  have hx := p.lx
  have hx' := p.ly
  have ha := q.lx
  have ha' := q.ly
  have lm := h.mlt hx ha
  have lj := jlt h hx' ha'
  obtain ⟨_, px1, px2⟩ := cmp_mem.1 p.c
  obtain ⟨_, qa1, qa2⟩ := cmp_mem.1 q.c
  refine ⟨lm, cmp_mem.2 ⟨lj, ?_, ?_⟩, cen_of h lm lj ?_ ?_⟩
  · have k := h.mlt lj lm
    refine le_bt h k ?_
    have k1 := h.m1 lj lm
    have k2 := h.tr k lm hx (h.m2 lj lm) (h.m1 hx ha)
    have k3 := h.tr k lm ha (h.m2 lj lm) (h.m2 hx ha)
    have k4 := cenBm h ha ha' hx' q.z k (h.tr k ha (jlt h hx' ha) k3 (j2 h hx' ha)) k1
    rw [← px1]
    exact h.mg hx' hx k k4 k2
  · have k := jlt h lj lm
    refine tp_le h k ?_
    rw [← px2]
    refine jg h hx' hx k (h.tr hx' lj k (j1 h hx' ha') (j1 h lj lm)) ?_
    refine cenA h ha ha' hx q.z k (j2 h lj lm) ?_
    exact h.tr (h.mlt hx ha') ha' k (h.m2 hx ha') (h.tr ha' lj k (j2 h hx' ha') (j1 h lj lm))
  · intro w u hw hu e1 e2
    have wx := h.mlt hw hx
    have wj := h.mlt hw lj
    refine cenA h hx hx' hw p.z hu (cenA h ha ha' wx q.z hu ?_ ?_) ?_
    · have k := h.mlt wx ha
      have k1 := h.tr k wx hw (h.m1 wx ha) (h.m1 hw hx)
      have k2 := h.tr k wx hx (h.m1 wx ha) (h.m2 hw hx)
      exact h.tr k (h.mlt hw lm) hu (h.mg hw lm k k1 (h.mg hx ha k k2 (h.m2 wx ha))) e1
    · have k := h.mlt wx ha'
      have k1 := h.tr k wx hw (h.m1 wx ha') (h.m1 hw hx)
      exact h.tr k wj hu (h.mg hw lj k k1 (h.tr k ha' lj (h.m2 wx ha') (j2 h hx' ha'))) e2
    · have k := h.mlt hw hx'
      exact h.tr k wj hu (h.mg hw lj k (h.m1 hw hx') (h.tr k hx' lj (h.m2 hw hx') (j1 h hx' ha'))) e2
  · intro w u hw hu e1 e2
    have uz := h.mlt hu hx
    have uz' := h.mlt hu hx'
    have wm := jlt h hw lm
    have wj := jlt h hw lj
    refine cenA h hx hx' hu p.z hw (cenA h ha ha' uz q.z hw ?_ ?_) ?_
    · have k := h.mlt uz ha
      have k0 := h.tr k uz hu (h.m1 uz ha) (h.m1 hu hx)
      have k1 := h.tr k uz hx (h.m1 uz ha) (h.m2 hu hx)
      have k2 := h.m2 uz ha
      have wx' := jlt h hw hx'
      have k3 : le (mt n le (mt n le u x) a) (mt n (du le) w x') = true := by
        refine cenBm h ha ha' wx' q.z k (h.tr k ha (jlt h wx' ha) k2 (j2 h wx' ha)) ?_
        have t := jlt h wx' ha'
        refine h.tr k wj t (h.tr k hu wj k0 e2) (jg h hw lj t (h.tr hw wx' t (j1 h hw hx') (j1 h wx' ha')) (jg h hx' ha' t (h.tr hx' wx' t (j2 h hw hx') (j1 h wx' ha')) (j2 h wx' ha')))
      exact cenBm h hx hx' hw p.z k (h.tr k hx (jlt h hw hx) k1 (j2 h hw hx)) k3
    · have k := h.mlt uz ha'
      have k0 := h.tr k uz hu (h.m1 uz ha') (h.m1 hu hx)
      have wa := jlt h hw ha
      exact cenBm h ha ha' hw q.z k (h.tr k wm wa (h.tr k hu wm k0 e1) (jg h hw lm wa (j1 h hw ha) (h.tr lm ha wa (h.m2 hx ha) (j2 h hw ha)))) (h.tr k ha' (jlt h hw ha') (h.m2 uz ha') (j2 h hw ha'))
    · have wx := jlt h hw hx
      exact cenBm h hx hx' hw p.z uz' (h.tr uz' wm wx (h.tr uz' hu wm (h.m1 hu hx') e1) (jg h hw lm wx (j1 h hw hx) (h.tr lm hx wx (h.m1 hx ha) (j2 h hw hx)))) (h.tr uz' hx' (jlt h hw hx') (h.m2 hu hx') (j2 h hw hx'))

theorem CP.join {n : Nat} {le : Nat → Nat → Bool} (h : LatP n le) {x x' a a' : Nat} (p : CP n le x x') (q : CP n le a a') : CP n le (mt n (du le) x a) (mt n le x' a') :=
  (CP.meet h.du p.dual q.dual).dual

noncomputable def hv (n : Nat) (H : Nat → Bool) (E : Nat → Prop) : List Bool := mkR n fun z => H z || tv (E z)


end Go.Proofs.Ytcdlbboeflehdaa
