import Derived.Test.YtlndlclemhfekaaPTab
import Derived.Test.YtlndlclemhfekaaHk12
import Derived.KernelRfl
set_option linter.unusedVariables false
set_option linter.unusedSimpArgs false
namespace Go.Proofs.Ytlndlclemhfekaa
open Go Go.Gx Go.Proofs

theorem toIntS_l (N : Nat) (k : List Int → Option (List Int × Unit)) : ∀ (n : Nat) (a out : List Int) (i : Nat), a.length - i < n → i ≤ a.length → out.length = a.length → a.length ≤ 1099511627776 →
    zz3_l3 N k n a out i = k (out.take i ++ a.drop i)
  | 0, _, _, _, h, _, _, _ => by omega
  | n + 1, a, out, i, h, hi, ho, hb => by
    simp only [zz3_l3, zz3_b3]
    by_cases hlt : i < a.length
    · rw [cdt (by omega), atI_lt a i hlt, Option.bind_some, atI_lt out i (by omega), Option.bind_some, Int.toNat_natCast, List.getElem?_eq_getElem (by omega), Option.bind_some, wr (by omega) (by omega)]
      have := toIntS_l N k n a (out.set i a[i]) (i + 1) (by omega) (by omega) (by simpa using ho) hb
      rw [show ((i : Int) + 1) = ((i + 1 : Nat) : Int) by omega, this]
      congr 1
      rw [List.take_succ_eq_append_getElem (by simp; omega), List.take_set, List.set_eq_of_length_le (by simp [Nat.min_le_left]), List.append_assoc]
      congr 1
      rw [List.getElem_set_self, List.singleton_append, ← List.drop_eq_getElem_cons hlt]
    · rw [cdf (by omega)]
      have : i = a.length := by omega
      subst this
      rw [List.drop_length, List.append_nil, List.take_of_length_le (by omega)]

theorem toIntS_eq (a : List Int) (h : a.length ≤ 4294967296) : zz3 big a = some (a, ()) := by
  have hb := big_ge
  unfold zz3 zz3_s
  rw [mkI_nat _ _ h, Option.bind_some, Option.bind_some, cdt (by omega)]
  unfold zz3_F3
  have := toIntS_l big zz3_a3 big a (List.replicate a.length 0) 0 (by omega) (by omega) (by simp) (by omega)
  refine Eq.trans this ?_
  simp [zz3_a3]

theorem eqIntS_l (N : Nat) (k : Option (Bool × Unit)) : ∀ (n : Nat) (a b : List Int) (i : Nat), a.length - i < n → i ≤ a.length → b.length = a.length → a.length ≤ 1099511627776 →
    zz65_l4 N k n a b i = if a.drop i = b.drop i then k else some (false, ())
  | 0, _, _, _, h, _, _, _ => by omega
  | n + 1, a, b, i, h, hi, hl, hb => by
    simp only [zz65_l4, zz65_b4]
    by_cases hlt : i < a.length
    · rw [cdt (by omega), atI_lt a i hlt, Option.bind_some, atI_lt b i (by omega), Option.bind_some, wr (by omega) (by omega)]
      have := eqIntS_l N k n a b (i + 1) (by omega) (by omega) hl hb
      rw [show ((i : Int) + 1) = ((i + 1 : Nat) : Int) by omega, this]
      rw [List.drop_eq_getElem_cons hlt, List.drop_eq_getElem_cons (show i < b.length by omega)]
      by_cases hx : a[i] = b[i]
      · rw [cdf (by simpa using hx), hx]; simp only [List.cons.injEq, true_and]
      · rw [cdt hx, if_neg (fun e => hx (by simp only [List.cons.injEq] at e; exact e.1))]
    · rw [cdf (by omega), List.drop_eq_nil_of_le (by omega), List.drop_eq_nil_of_le (by omega)]
      simp

theorem eqIntS_eq (a b : List Int) (h : a.length ≤ 1099511627775) : zz65 big a b = some (decide (a = b), ()) := by
  have hb := big_ge
  unfold zz65 zz65_s
  by_cases hl : a.length = b.length
  · rw [cdf (by simp [hl])]
    unfold zz65_F4
    have := eqIntS_l big zz65_a4 big a b 0 (by omega) (by omega) (by omega) (by omega)
    rw [show (0 : Int) = ((0 : Nat) : Int) from rfl, this]
    simp only [List.drop_zero, zz65_a4]
    by_cases he : a = b <;> simp [he]
  · rw [cdt (by omega)]
    have : a ≠ b := by rintro rfl; exact hl rfl
    simp [this]

theorem l1In_eq (x a b : Int) : zz6 x a b = some (decide (a ≤ x ∧ x ≤ b), ()) := by
  unfold zz6 zz6_s
  by_cases h : a ≤ x <;> simp [h]

def marks : Int → Nat → List Int
  | _, 0 => []
  | k, n + 1 => k :: marks (k + 1) n

theorem marks_len : ∀ (k : Int) (n : Nat), (marks k n).length = n
  | _, 0 => rfl
  | k, n + 1 => by simp [marks, marks_len (k + 1) n]

theorem markIntS_l (N : Nat) (kk : List Int → Int → Option (Int × (List Int × Unit))) : ∀ (n : Nat) (a : List Int) (k : Int) (i : Nat), a.length - i < n → i ≤ a.length → a.length ≤ 1099511627776 → 0 ≤ k → k ≤ 1125899906842624 →
    k + (a.length - i : Nat) ≤ 1125899906842624 → zz68_l2 N kk n a k i = kk (a.take i ++ marks k (a.length - i)) (k + (a.length - i : Nat))
  | 0, _, _, _, h, _, _, _, _, _ => by omega
  | n + 1, a, k, i, h, hi, hb, hk0, hk, hk2 => by
    simp only [zz68_l2, zz68_b2]
    by_cases hlt : i < a.length
    · rw [cdt (by omega), atI_lt a i hlt, Option.bind_some, Int.toNat_natCast, List.getElem?_eq_getElem hlt, Option.bind_some, wr (by omega) (by omega), wr (by omega) (by omega)]
      have := markIntS_l N kk n (a.set i k) (k + 1) (i + 1) (by simp; omega) (by simp; omega) (by simpa using hb) (by omega) (by omega) (by simp; omega)
      rw [show ((i : Int) + 1) = ((i + 1 : Nat) : Int) by omega, this]
      rw [List.length_set, List.take_succ_eq_append_getElem (by simp; omega), List.take_set, List.set_eq_of_length_le (by simp [Nat.min_le_left]), List.append_assoc, List.getElem_set_self]
      have e : a.length - i = (a.length - (i + 1)) + 1 := by omega
      rw [e, marks]
      congr 1
      omega
    · rw [cdf (by omega)]
      have : i = a.length := by omega
      subst this
      simp [marks]

theorem markIntS_eq (a : List Int) (k : Int) (h : a.length ≤ 1099511627775) (hk : 0 ≤ k) (hk2 : k ≤ 1099511627776) : zz68 big a k = some (k + a.length, (marks k a.length, ())) := by
  have hb := big_ge
  unfold zz68 zz68_s zz68_F2
  have := markIntS_l big zz68_a2 big a k 0 (by omega) (by omega) (by omega) hk (by omega) (by omega)
  refine Eq.trans this ?_
  simp [zz68_a2]

theorem heldIntS_l (N : Nat) (kk : Int → Option (Int × Unit)) : ∀ (n : Nat) (a b : List Int) (k : Int) (d : Nat), d < n → a = b ++ marks k d → a.length ≤ 1099511627776 → 0 ≤ k → k + d ≤ 1125899906842624 →
    zz71_l2 N kk n a k b.length = kk (k + d)
  | 0, _, _, _, _, h, _, _, _, _ => by omega
  | n + 1, a, b, k, d, h, ha, hb, hk0, hk => by
    simp only [zz71_l2, zz71_b2]
    have hlen : a.length = b.length + d := by rw [ha]; simp [marks_len]
    cases d with
    | zero => rw [cdf (by omega)]; simp
    | succ d =>
      have hlt : b.length < a.length := by omega
      have hx : a[b.length] = k := by
        have : a[b.length]? = some k := by rw [ha]; simp [marks]
        rw [List.getElem?_eq_getElem hlt] at this
        simpa using this
      rw [cdt (by omega), atI_lt a b.length hlt, Option.bind_some, hx, cdf (by simp), wr (by omega) (by omega), wr (by omega) (by omega)]
      have := heldIntS_l N kk n a (b ++ [k]) (k + 1) d (by omega) (by rw [ha, marks, List.append_assoc]; rfl) hb (by omega) (by omega)
      rw [List.length_append, List.length_singleton] at this
      rw [show ((b.length : Int) + 1) = ((b.length + 1 : Nat) : Int) by omega, this]
      congr 1
      omega

theorem heldIntS_eq (k : Int) (d : Nat) (h : d ≤ 1099511627775) (hk : 0 ≤ k) (hk2 : k ≤ 1099511627776) : zz71 big (marks k d) k = some (k + d, ()) := by
  have hb := big_ge
  unfold zz71 zz71_s zz71_F2
  exact heldIntS_l big zz71_a2 big (marks k d) [] k d (by omega) rfl (by rw [marks_len]; omega) hk (by omega)

def subst (l : Int) (s : List Int) : List Int → List Int
  | [] => []
  | x :: xs => if x = l then s ++ subst l s xs else x :: subst l s xs

theorem eqIntSS_l (N : Nat) (k : Option (Bool × Unit)) : ∀ (n : Nat) (a b : List (List Int)) (i : Nat), a.length - i < n → i ≤ a.length → b.length = a.length → a.length ≤ 1099511627776 → (∀ x ∈ a, x.length ≤ 4294967296) →
    zz66_l4 N k n a b i = if a.drop i = b.drop i then k else some (false, ())
  | 0, _, _, _, h, _, _, _, _ => by omega
  | n + 1, a, b, i, h, hi, hl, hb, hx => by
    simp only [zz66_l4, zz66_b4]
    by_cases hlt : i < a.length
    · have hxx := hx _ (List.getElem_mem hlt)
      rw [cdt (by omega), atI_lt a i hlt, Option.bind_some, atI_lt b i (by omega), Option.bind_some, eqIntS_eq _ _ (by omega), Option.bind_some, wr (by omega) (by omega)]
      have := eqIntSS_l N k n a b (i + 1) (by omega) (by omega) hl hb hx
      rw [show ((i : Int) + 1) = ((i + 1 : Nat) : Int) by omega, this]
      rw [List.drop_eq_getElem_cons hlt, List.drop_eq_getElem_cons (show i < b.length by omega)]
      by_cases hx : a[i] = b[i]
      · rw [hx]; simp only [decide_true, Bool.not_true, cond_false, List.cons.injEq, true_and]
      · rw [decide_eq_false hx]; exact (if_neg (fun e => hx (List.cons.inj e).1)).symm
    · rw [cdf (by omega), List.drop_eq_nil_of_le (by omega), List.drop_eq_nil_of_le (by omega)]
      simp

theorem eqIntSS_eq (a b : List (List Int)) (h : a.length ≤ 1099511627775) (hx : ∀ x ∈ a, x.length ≤ 4294967296) : zz66 big a b = some (decide (a = b), ()) := by
  have hb := big_ge
  unfold zz66 zz66_s
  by_cases hl : a.length = b.length
  · rw [cdf (by simp [hl])]
    unfold zz66_F4
    have := eqIntSS_l big zz66_a4 big a b 0 (by omega) (by omega) (by omega) (by omega) hx
    refine Eq.trans this ?_
    simp only [List.drop_zero, zz66_a4]
    by_cases he : a = b <;> simp [he]
  · rw [cdt (by omega)]
    have : a ≠ b := by rintro rfl; exact hl rfl
    simp [this]

def marksS : Int → List Nat → List (List Int)
  | _, [] => []
  | k, n :: ns => marks k n :: marksS (k + n) ns

theorem marksS_len : ∀ (k : Int) (ns : List Nat), (marksS k ns).length = ns.length
  | _, [] => rfl
  | k, n :: ns => by simp [marksS, marksS_len _ ns]

theorem markIntSS_l (N : Nat) (kk : List (List Int) → Int → Option (Int × (List (List Int) × Unit))) : ∀ (n : Nat) (a : List (List Int)) (k : Int) (i : Nat), a.length - i < n → i ≤ a.length → a.length ≤ 1099511627776 → 0 ≤ k → k + ((a.drop i).map List.length).sum ≤ 1099511627775 →
    zz69_l2 N kk n a k i = kk (a.take i ++ marksS k ((a.drop i).map List.length)) (k + ((a.drop i).map List.length).sum)
  | 0, _, _, _, h, _, _, _, _ => by omega
  | n + 1, a, k, i, h, hi, hb, hk0, hk => by
    simp only [zz69_l2, zz69_b2]
    by_cases hlt : i < a.length
    · rw [List.drop_eq_getElem_cons hlt, List.map_cons, List.sum_cons] at hk
      rw [cdt (by omega), atI_lt a i hlt, Option.bind_some, Int.toNat_natCast, List.getElem?_eq_getElem hlt, Option.bind_some, Option.bind_some, markIntS_eq _ k (by omega) (by omega) (by omega), Option.bind_some, Option.bind_some, Option.bind_some, wr (n := (i : Int) + 1) (by omega) (by omega)]
      have e1 : (a.set i (marks k a[i].length)).drop (i + 1) = a.drop (i + 1) := by rw [List.drop_set, if_pos (by omega)]
      have := markIntSS_l N kk n (a.set i (marks k a[i].length)) (k + a[i].length) (i + 1) (by simp; omega) (by simp; omega) (by simpa using hb) (by omega) (by rw [e1]; omega)
      rw [show ((i : Int) + 1) = ((i + 1 : Nat) : Int) by omega, this, e1]
      rw [List.take_succ_eq_append_getElem (by simp; omega), List.take_set, List.set_eq_of_length_le (by simp [Nat.min_le_left]), List.append_assoc, List.getElem_set_self]
      rw [List.drop_eq_getElem_cons hlt, List.map_cons, List.sum_cons, marksS]
      congr 1
      omega
    · rw [cdf (by omega)]
      have : i = a.length := by omega
      subst this
      simp [marksS]

theorem markIntSS_eq (a : List (List Int)) (k : Int) (h : a.length ≤ 1099511627775) (hk : 0 ≤ k) (hk2 : k + (a.map List.length).sum ≤ 1099511627775) : zz69 big a k = some (k + (a.map List.length).sum, (marksS k (a.map List.length), ())) := by
  have hb := big_ge
  unfold zz69 zz69_s zz69_F2
  have := markIntSS_l big zz69_a2 big a k 0 (by omega) (by omega) (by omega) hk (by simpa using hk2)
  refine Eq.trans this ?_
  simp [zz69_a2]

theorem heldIntSS_l (N : Nat) (kk : Int → Option (Int × Unit)) : ∀ (n : Nat) (a b : List (List Int)) (k : Int) (ns : List Nat), ns.length < n → a = b ++ marksS k ns → a.length ≤ 1099511627776 → 0 ≤ k → k + ns.sum ≤ 1099511627775 →
    zz72_l2 N kk n a k b.length = kk (k + ns.sum)
  | 0, _, _, _, _, h, _, _, _, _ => by omega
  | n + 1, a, b, k, ns, h, ha, hb, hk0, hk => by
    simp only [zz72_l2, zz72_b2]
    have hlen : a.length = b.length + ns.length := by rw [ha]; simp [marksS_len]
    cases ns with
    | nil => rw [cdf (by simp at hlen; omega)]; simp
    | cons m ns =>
      simp only [List.length_cons] at hlen h
      simp only [List.sum_cons] at hk
      have hlt : b.length < a.length := by omega
      have hx : a[b.length] = marks k m := by
        have : a[b.length]? = some (marks k m) := by rw [ha]; simp [marksS]
        rw [List.getElem?_eq_getElem hlt] at this
        simpa using this
      rw [cdt (by omega), atI_lt a b.length hlt, Option.bind_some, hx, heldIntS_eq k m (by omega) hk0 (by omega), Option.bind_some, cdf (by omega), wr (by omega) (by omega)]
      have := heldIntSS_l N kk n a (b ++ [marks k m]) (k + m) ns (by omega) (by rw [ha, marksS, List.append_assoc]; rfl) hb (by omega) (by omega)
      rw [List.length_append, List.length_singleton] at this
      rw [show ((b.length : Int) + 1) = ((b.length + 1 : Nat) : Int) by omega, this, List.sum_cons]
      congr 1
      omega

theorem heldIntSS_eq (k : Int) (ns : List Nat) (h : ns.length ≤ 1099511627775) (hk : 0 ≤ k) (hk2 : k + ns.sum ≤ 1099511627775) : zz72 big (marksS k ns) k = some (k + ns.sum, ()) := by
  have hb := big_ge
  unfold zz72 zz72_s zz72_F2
  exact heldIntSS_l big zz72_a2 big (marksS k ns) [] k ns (by omega) rfl (by rw [marksS_len]; omega) hk hk2

theorem markIntS_eq2 (a : List Int) (k : Int) (h : a.length ≤ 1099511627775) (hk : 0 ≤ k) (hk2 : k ≤ 10995116277760) : zz68 big a k = some (k + a.length, (marks k a.length, ())) := by
  have hb := big_ge
  unfold zz68 zz68_s zz68_F2
  have := markIntS_l big zz68_a2 big a k 0 (by omega) (by omega) (by omega) hk (by omega) (by omega)
  refine Eq.trans this ?_
  simp [zz68_a2]

def risingB : List Int → Bool
  | x :: y :: r => decide (x < y) && risingB (y :: r)
  | _ => true

def inB (n : Nat) (x : Int) : Bool := decide (0 ≤ x ∧ x < n)

def isSetB (n : Nat) (s : List Int) : Bool := s.all (inB n) && risingB s

theorem rising_step (l : List Int) (i : Nat) (h : i < l.length) (h1 : 1 ≤ i) : risingB (l.drop (i - 1)) = (decide (l[i - 1] < l[i]) && risingB (l.drop i)) := by
  rw [List.drop_eq_getElem_cons (show i - 1 < l.length by omega), show i - 1 + 1 = i by omega, List.drop_eq_getElem_cons h]
  rfl

theorem rising_end (l : List Int) (i : Nat) (h : l.length ≤ i) (h1 : 1 ≤ i) : risingB (l.drop (i - 1)) = true := by
  by_cases h2 : l.length = i
  · rw [List.drop_eq_getElem_cons (show i - 1 < l.length by omega), List.drop_eq_nil_of_le (by omega)]
    rfl
  · rw [List.drop_eq_nil_of_le (by omega)]
    rfl

theorem specRising_l (N : Nat) {m : Nat} : ∀ (n : Nat) (l : List Int) (i : Nat), l.length - i < n → i ≤ l.length → l.length ≤ 1099511627776 →
    zz7_l2 N zz7_a2 n l 0 ((m : Int) - 1) i = some ((l.drop i).all (inB m) && risingB (l.drop (i - 1)), ())
  | 0, _, _, h, _, _ => by omega
  | n + 1, l, i, h, hi, hb => by
    simp only [zz7_l2, zz7_b2]
    by_cases hlt : i < l.length
    · have e : decide (0 ≤ l[i] ∧ l[i] ≤ (m : Int) - 1) = inB m l[i] := by
        unfold inB; congr 1; exact propext ⟨fun h => ⟨h.1, by omega⟩, fun h => ⟨h.1, by omega⟩⟩
      rw [cdt (by omega), atI_lt l i hlt, Option.bind_some, l1In_eq, Option.bind_some, e, wr (n := (i : Int) + 1) (by omega) (by omega), wr (n := (i : Int) - 1) (by omega) (by omega)]
      rw [show ((i : Int) + 1) = ((i + 1 : Nat) : Int) by omega, specRising_l N n l (i + 1) (by omega) (by omega) hb]
      rw [show i + 1 - 1 = i by omega]
      cases hin : inB m l[i] with
      | false =>
        rw [List.drop_eq_getElem_cons hlt, List.all_cons, hin]
        rfl
      | true =>
        simp only [Bool.not_true, cond_false]
        by_cases h0 : 0 < i
        · rw [cdt (by omega), show ((i : Int) - 1) = ((i - 1 : Nat) : Int) by omega, atI_lt l (i - 1) (by omega), Option.bind_some, Option.bind_some, rising_step l i hlt h0]
          by_cases hle : l[i] ≤ l[i - 1]
          · rw [cdt hle, decide_eq_false (by omega)]
            simp
          · rw [cdf hle, decide_eq_true (show l[i - 1] < l[i] by omega), List.drop_eq_getElem_cons hlt, List.all_cons, hin]
            simp
        · rw [cdf (by omega)]
          have : i = 0 := by omega
          subst this
          rw [show (0 : Nat) - 1 = 0 from rfl, List.drop_eq_getElem_cons hlt, List.all_cons, hin]
          simp
    · rw [cdf (by omega), List.drop_eq_nil_of_le (by omega)]
      by_cases h1 : 1 ≤ i
      · rw [rising_end l i (by omega) h1]; rfl
      · have : l = [] := List.eq_nil_of_length_eq_zero (by omega)
        subst this
        simp [risingB, zz7_a2]

theorem inSize_l (N : Nat) {m : Nat} : ∀ (n : Nat) (l : List Int) (i : Nat), l.length - i < n → i ≤ l.length → l.length ≤ 1099511627776 →
    zz32_l2 N zz32_a2 n (m : Int) l (l.length : Int) i = some ((l.drop i).all (inB m), ())
  | 0, _, _, h, _, _ => by omega
  | n + 1, l, i, h, hi, hb => by
    simp only [zz32_l2, zz32_b2]
    by_cases hlt : i < l.length
    · rw [cdt (by omega), atI_lt l i hlt, Option.bind_some, wr (n := (i : Int) + 1) (by omega) (by omega)]
      rw [show ((i : Int) + 1) = ((i + 1 : Nat) : Int) by omega, inSize_l N n l (i + 1) (by omega) (by omega) hb]
      rw [List.drop_eq_getElem_cons hlt, List.all_cons]
      unfold inB
      by_cases h0 : l[i] < 0
      · rw [cdt h0, decide_eq_false (by omega)]; rfl
      · rw [cdf h0]
        by_cases h1 : (m : Int) ≤ l[i]
        · rw [cdt h1, decide_eq_false (by omega)]; rfl
        · rw [cdf h1, decide_eq_true (by omega)]; rfl
    · rw [cdf (by omega), List.drop_eq_nil_of_le (by omega)]
      rfl

theorem rises_l (N : Nat) : ∀ (n : Nat) (l : List Int) (i : Nat), l.length - i < n → 1 ≤ i → l.length ≤ 1099511627776 → i ≤ 1099511627777 →
    zz31_l2 N zz31_a2 n l i = some (risingB (l.drop (i - 1)), ())
  | 0, _, _, h, _, _, _ => by omega
  | n + 1, l, i, h, hi, hb, hi2 => by
    simp only [zz31_l2, zz31_b2]
    by_cases hlt : i < l.length
    · rw [cdt (by omega), wr (n := (i : Int) - 1) (by omega) (by omega), show ((i : Int) - 1) = ((i - 1 : Nat) : Int) by omega, atI_lt l (i - 1) (by omega), Option.bind_some, atI_lt l i hlt, Option.bind_some, wr (n := (i : Int) + 1) (by omega) (by omega)]
      rw [show ((i : Int) + 1) = ((i + 1 : Nat) : Int) by omega, rises_l N n l (i + 1) (by omega) (by omega) hb (by omega), rising_step l i hlt hi, show i + 1 - 1 = i by omega]
      by_cases hle : l[i] ≤ l[i - 1]
      · rw [cdt hle, decide_eq_false (by omega)]; rfl
      · rw [cdf hle, decide_eq_true (by omega)]; rfl
    · rw [cdf (by omega), rising_end l i (by omega) hi]
      rfl

theorem wr1 {i : Nat} (h : i ≤ 4611686018427387904) : IntKind.i64.wrap ((i : Int) + 1) = ((i + 1 : Nat) : Int) := by rw [wr (by omega) (by omega)]; omega

abbrev PT := List (List Int) × Unit

def pos (n : Nat) (le : Nat → Nat → Bool) : PT := (mkR n fun y => cs (fl n fun x => le x y), ())

def leP (p : PT) (x y : Nat) : Bool := decide ((x : Int) ∈ p.1.getD y [])

structure Ord (n : Nat) (le : Nat → Nat → Bool) : Prop where
  refl : ∀ x, x < n → le x x = true
  anti : ∀ x y, x < n → y < n → x ≠ y → le x y = true → le y x = false
  trans : ∀ x y z, x < n → y < n → z < n → le x y = true → le y z = true → le x z = true

structure Good (p : PT) : Prop where
  len : p.1.length ≤ 10
  rows : ∀ r ∈ p.1, isSetB p.1.length r = true
  ord : Ord p.1.length (leP p)

theorem l1Has_eq (l : List Int) (x : Int) (h : l.length ≤ 4294967296) : zz8 big l x = some (decide (x ∈ l), ()) := by
  unfold zz8 zz8_s
  refine zz8_h2 l.length (fun i => x ∉ l.take i) (by omega) ?_ ?_ 0 (by omega) (by simp)
  · intro rc i hi hv ih
    unfold zz8_b2
    rw [cdt (by omega), atI_lt l i hi, Option.bind_some]
    by_cases hx : l[i] = x
    · rw [cdt hx, decide_eq_true (hx ▸ List.getElem_mem hi)]
    · rw [cdf hx, wr1 (by omega)]
      refine ih fun h => ?_
      rw [List.take_succ_eq_append_getElem hi, List.mem_append, List.mem_singleton] at h
      exact h.elim hv fun e => hx e.symm
  · intro rc hv
    unfold zz8_b2
    rw [cdf (by omega), zz8_a2, decide_eq_false (by simpa using hv)]

theorem l1Has_cs (S : List Nat) (x : Nat) (h : S.length ≤ 4294967296) : zz8 big (cs S) (x : Int) = some (decide (x ∈ S), ()) := by
  rw [l1Has_eq _ _ (by simpa using h)]
  simp only [cs_mem]

theorem l5Within_eq (a b : List Int) (ha : a.length ≤ 4294967296) (hb : b.length ≤ 4294967296) : zz9 big a b = some (tv (∀ x ∈ a, x ∈ b), ()) := by
  unfold zz9 zz9_s
  refine zz9_h2 a.length (fun i => ∀ x ∈ a.take i, x ∈ b) (by omega) ?_ ?_ 0 (by omega) (by simp)
  · intro rc i hi hv ih
    unfold zz9_b2
    rw [cdt (by omega), atI_lt a i hi, Option.bind_some, l1Has_eq _ _ hb, Option.bind_some]
    by_cases hx : a[i] ∈ b
    · rw [decide_eq_true hx, wr1 (by omega)]
      exact ih ((all_take_succ hi).2 ⟨hv, hx⟩)
    · rw [decide_eq_false hx, tv_f fun h => hx (h _ (List.getElem_mem hi))]
      rfl
  · intro rc hv
    unfold zz9_b2
    rw [cdf (by omega), zz9_a2, tv_t (by simpa using hv)]

theorem specRising_eq (n : Nat) (s : List Int) (hn : n ≤ 1099511627776) (hs : s.length ≤ 1099511627775) : zz7 big s 0 ((n : Int) - 1) = some (isSetB n s, ()) := by
  have hb := big_ge
  unfold zz7 zz7_s zz7_F2
  have := specRising_l big (m := n) big s 0 (by omega) (by omega) (by omega)
  rw [show zz7_l2 big zz7_a2 big s 0 ((n : Int) - 1) 0 = _ from this]
  rfl

theorem inSize_eq (n : Nat) (s : List Int) (hs : s.length ≤ 1099511627775) : zz32 big s (n : Int) = some (s.all (inB n), ()) := by
  have hb := big_ge
  unfold zz32 zz32_s zz32_F2
  have h1 := inSize_l big (m := n) big s 0 (by omega) (by omega) (by omega)
  rw [show (0 : Int) = ((0 : Nat) : Int) from rfl, h1]
  rfl

theorem rises_eq (s : List Int) (hs : s.length ≤ 1099511627775) : zz31 big s = some (risingB s, ()) := by
  have hb := big_ge
  unfold zz31 zz31_s zz31_F2
  have h2 := rises_l big big s 1 (by omega) (by omega) (by omega) (by omega)
  rw [show (1 : Int) = ((1 : Nat) : Int) from rfl, h2]
  rfl

theorem rising_pair : ∀ {l : List Int}, risingB l = true → l.Pairwise (· < ·)
  | [], _ => List.Pairwise.nil
  | [x], _ => by simp
  | x :: y :: r, h => by
    simp only [risingB, Bool.and_eq_true, decide_eq_true_eq] at h
    have h2 := rising_pair h.2
    refine List.pairwise_cons.2 ⟨fun z hz => ?_, h2⟩
    rcases List.mem_cons.1 hz with rfl | hz
    · exact h.1
    · have := (List.pairwise_cons.1 h2).1 z hz
      omega

theorem pair_rising : ∀ {l : List Int}, l.Pairwise (· < ·) → risingB l = true
  | [], _ => rfl
  | [x], _ => rfl
  | x :: y :: r, h => by
    have h1 := List.pairwise_cons.1 h
    simp only [risingB, Bool.and_eq_true, decide_eq_true_eq]
    exact ⟨h1.1 y (by simp), pair_rising h1.2⟩

theorem pair_ext : ∀ {l m : List Int}, l.Pairwise (· < ·) → m.Pairwise (· < ·) → (∀ x, x ∈ l ↔ x ∈ m) → l = m
  | [], [], _, _, _ => rfl
  | [], y :: m, _, _, h => by have := (h y).2 (by simp); simp at this
  | x :: l, [], _, _, h => by have := (h x).1 (by simp); simp at this
  | x :: l, y :: m, h1, h2, h => by
    have p1 := List.pairwise_cons.1 h1
    have p2 := List.pairwise_cons.1 h2
    have e : x = y := by
      rcases List.mem_cons.1 ((h x).1 (by simp)) with e | hx
      · exact e
      · rcases List.mem_cons.1 ((h y).2 (by simp)) with e | hy
        · exact e.symm
        · have := p1.1 y hy
          have := p2.1 x hx
          omega
    subst e
    congr 1
    refine pair_ext p1.2 p2.2 fun z => ?_
    constructor
    · intro hz
      rcases List.mem_cons.1 ((h z).1 (List.mem_cons_of_mem _ hz)) with e | hz2
      · have := p1.1 z hz; omega
      · exact hz2
    · intro hz
      rcases List.mem_cons.1 ((h z).2 (List.mem_cons_of_mem _ hz)) with e | hz2
      · have := p2.1 z hz; omega
      · exact hz2

theorem fl_pair (n : Nat) (P : Nat → Bool) : (cs (fl n P)).Pairwise (· < ·) := by
  unfold cs fl
  rw [List.pairwise_map]
  refine List.Pairwise.filter _ ?_
  have := List.pairwise_lt_range (n := n)
  exact this.imp fun h => by omega

theorem setB_form {n : Nat} {l : List Int} (h : isSetB n l = true) : l = cs (fl n fun x => decide ((x : Int) ∈ l)) := by
  unfold isSetB at h
  rw [Bool.and_eq_true] at h
  refine pair_ext (rising_pair h.2) (fl_pair _ _) fun x => ?_
  constructor
  · intro hx
    have h1 := List.all_eq_true.1 h.1 x hx
    unfold inB at h1
    rw [decide_eq_true_eq] at h1
    have e : x = ((x.toNat : Nat) : Int) := by omega
    rw [e, cs_mem, fl_mem]
    refine ⟨by omega, decide_eq_true ?_⟩
    rw [← e]; exact hx
  · intro hx
    unfold cs at hx
    obtain ⟨y, hy, e⟩ := List.mem_map.1 hx
    have := (fl_mem.1 hy).2
    rw [decide_eq_true_eq] at this
    exact e ▸ this

theorem fl_setB (n : Nat) (P : Nat → Bool) : isSetB n (cs (fl n P)) = true := by
  unfold isSetB
  rw [Bool.and_eq_true]
  refine ⟨List.all_eq_true.2 fun x hx => ?_, pair_rising (fl_pair n P)⟩
  unfold cs at hx
  obtain ⟨y, hy, e⟩ := List.mem_map.1 hx
  have := (fl_mem.1 hy).1
  unfold inB
  exact decide_eq_true (by omega)

theorem pos_form {p : PT} (h : ∀ r ∈ p.1, isSetB p.1.length r = true) : p = pos p.1.length (leP p) := by
  unfold pos
  refine Prod.ext ?_ rfl
  refine eq_mkR rfl fun i hi => ?_
  refine (setB_form (h _ (List.getElem_mem hi))).trans ?_
  refine congrArg cs (fl_congr fun x hx => ?_)
  unfold leP
  simp [hi]

theorem pos_len (n : Nat) (le : Nat → Nat → Bool) : (pos n le).1.length = n := mkR_len n _

theorem pos_rows (n : Nat) (le : Nat → Nat → Bool) : ∀ r ∈ (pos n le).1, isSetB (pos n le).1.length r = true := by
  intro r hr
  rw [pos_len]
  obtain ⟨i, _, e⟩ := mkR_mem.1 hr
  exact e ▸ fl_setB _ _

theorem leP_pos {n : Nat} {le : Nat → Nat → Bool} {x y : Nat} (hx : x < n) (hy : y < n) : leP (pos n le) x y = le x y := by
  unfold leP pos
  simp only [List.getD_eq_getElem?_getD, get_mkR hy, Option.getD_some, cs_mem, fl_mem, hx, true_and, Bool.decide_eq_true]

theorem Ord.congr {n : Nat} {le le' : Nat → Nat → Bool} (e : ∀ x y, x < n → y < n → le x y = le' x y) (h : Ord n le) : Ord n le' where
  refl x hx := by rw [← e x x hx hx]; exact h.refl x hx
  anti x y hx hy hxy h1 := by rw [← e y x hy hx]; rw [← e x y hx hy] at h1; exact h.anti x y hx hy hxy h1
  trans x y z hx hy hz h1 h2 := by
    rw [← e x z hx hz]; rw [← e x y hx hy] at h1; rw [← e y z hy hz] at h2
    exact h.trans x y z hx hy hz h1 h2

theorem good_pos {n : Nat} {le : Nat → Nat → Bool} : Good (pos n le) ↔ n ≤ 10 ∧ Ord n le := by
  have e : ∀ x y, x < n → y < n → leP (pos n le) x y = le x y := fun x y hx hy => leP_pos hx hy
  constructor
  · intro h
    have h1 := h.len; have h2 := h.ord
    rw [pos_len] at h1 h2
    exact ⟨h1, h2.congr e⟩
  · intro h
    refine ⟨by rw [pos_len]; exact h.1, pos_rows n le, ?_⟩
    rw [pos_len]
    exact h.2.congr fun x y hx hy => (e x y hx hy).symm

theorem Good.form {p : PT} (h : Good p) : p = pos p.1.length (leP p) := pos_form h.rows

theorem newOrder_eq {n : Nat} (h : n ≤ 4294967296) : zz30 big (n : Int) = some (mkT n fun _ _ => false, ()) := by
  unfold zz30 zz30_s
  rw [mkI_mkR h, Option.bind_some, Option.bind_some, cdt (by omega), mkR_len]
  refine zz30_h3 n (fun i o => o = mkR n fun x => if x < i then mkR n fun _ => false else []) (by omega) ?_ ?_ 0 (by omega) _ (by simp)
  · intro rc i o hi hv ih
    unfold zz30_b3
    rw [cdt (by omega), mkI_mkR h, Option.bind_some, Option.bind_some, cdt (by omega), hv, atI_mkR hi, Option.bind_some, Int.toNat_natCast, get_mkR hi, Option.bind_some, wr1 (by omega)]
    refine ih _ ?_
    rw [mkR_set]
    refine mkR_congr fun x hx => ?_
    by_cases h1 : x = i
    · rw [if_pos h1, if_pos (by omega)]
    · rw [if_neg h1]
      by_cases h2 : x < i
      · rw [if_pos h2, if_pos (by omega)]
      · rw [if_neg h2, if_neg (by omega)]
  · intro rc o hv
    unfold zz30_b3
    rw [cdf (by omega), hv, zz30_a3]
    congr 2
    exact mkR_congr fun x hx => by rw [if_pos hx]

theorem isOrder_eq {n : Nat} {le : Nat → Nat → Bool} (hn : n ≤ 4294967296) : zz33 big (mkT n le) = some (tv (Ord n le), ()) := by
  unfold zz33 zz33_s
  rw [mkR_len]
  refine zz33_h2 n (fun i => ∀ x, x < i → le x x = true ∧ (∀ y, y < n → (x ≠ y → le x y = true → le y x = false) ∧ ∀ z, z < n → le x y = true → le y z = true → le x z = true)) (by omega) ?_ ?_ 0 (by omega) (by intro x hx; omega)
  · intro rc i hi hv ih
    unfold zz33_b2
    rw [cdt (by omega), atI_mkR hi, Option.bind_some, atI_mkR hi, Option.bind_some, mkR_len]
    cases h0 : le i i with
    | false =>
      rw [tv_f fun h => by rw [h.refl i hi] at h0; cases h0]
      rfl
    | true =>
      rw [Bool.not_true, cond_false]
      refine zz33_h7 n (fun j => ∀ y, y < j → (i ≠ y → le i y = true → le y i = false) ∧ ∀ z, z < n → le i y = true → le y z = true → le i z = true) (by omega) ?_ ?_ 0 (by omega) (by intro x hx; omega)
      · intro rc2 j hj hv2 ih2
        have inn : (i ≠ j → le i j = true → le j i = false) → zz33_F12 big rc2 (zz33_a7 rc) (mkT n le) (i : Int) (j : Int) (n : Int) (i : Int) (n : Int) (j : Int) (n : Int) ((0 : Nat) : Int) = some (tv (Ord n le), ()) := by
          intro hij
          refine zz33_h12 n (fun k => ∀ z, z < k → le i j = true → le j z = true → le i z = true) (by omega) ?_ ?_ 0 (by omega) (by intro x hx; omega)
          · intro rc3 k hk hv3 ih3
            unfold zz33_b12
            simp only [cdt (show (k : Int) < (n : Int) by omega), atI_mkR hi, atI_mkR hj, atI_mkR hk, Option.bind_some, wr1 (show k ≤ 4611686018427387904 by omega)]
            cases h1 : le i j with
            | false => exact ih3 (all_lt_succ.2 ⟨hv3, by intro h; rw [h1] at h; cases h⟩)
            | true =>
              cases h2 : le j k with
              | false => exact ih3 (all_lt_succ.2 ⟨hv3, by intro _ h; rw [h2] at h; cases h⟩)
              | true =>
                cases h3 : le i k with
                | false =>
                  rw [tv_f fun h => by rw [h.trans i j k hi hj hk h1 h2] at h3; cases h3]
                  rfl
                | true => exact ih3 (all_lt_succ.2 ⟨hv3, fun _ _ => h3⟩)
          · intro rc3 hv3
            unfold zz33_b12
            rw [cdf (by omega), zz33_a12, wr1 (by omega)]
            exact ih2 (all_lt_succ.2 ⟨hv2, hij, hv3⟩)
        unfold zz33_b7
        rw [cdt (by omega), atI_mkR hi, Option.bind_some, atI_mkR hj, Option.bind_some, atI_mkR hj, Option.bind_some, atI_mkR hi, Option.bind_some, mkR_len]
        by_cases hij : i = j
        · rw [cdf (by omega)]
          exact inn fun h => absurd hij h
        · rw [cdt (by omega)]
          cases h1 : le i j with
          | false => exact inn fun _ h => by rw [h1] at h; cases h
          | true =>
            cases h2 : le j i with
            | false => exact inn fun _ _ => h2
            | true =>
              rw [tv_f fun h => by rw [h.anti i j hi hj hij h1] at h2; cases h2]
              rfl
      · intro rc2 hv2
        unfold zz33_b7
        rw [cdf (by omega), zz33_a7, wr1 (by omega)]
        exact ih (all_lt_succ.2 ⟨hv, h0, hv2⟩)
  · intro rc hv
    unfold zz33_b2
    rw [cdf (by omega), zz33_a2, tv_t]
    exact ⟨fun x hx => (hv x hx).1, fun x y hx hy => ((hv x hx).2 y hy).1, fun x y z hx hy hz => ((hv x hx).2 y hy).2 z hz⟩

theorem mkT_set {α : Type} {n : Nat} {f : Nat → Nat → α} {x y : Nat} {v : α} : (mkT n f).set x ((mkR n (f x)).set y v) = mkT n fun a b => if a = x ∧ b = y then v else f a b := by
  rw [mkR_set]
  refine mkR_congr fun a ha => ?_
  by_cases h : a = x
  · subst h
    rw [if_pos rfl, mkR_set]
    exact mkR_congr fun b hb => by simp
  · rw [if_neg h]
    exact mkR_congr fun b hb => by simp [h]

theorem orderOf_eq (p : PT) (hl : p.1.length ≤ 10) (hx : ∀ r ∈ p.1, r.length ≤ 4294967296) :
    zz34 big p = some (@ite _ (∀ r ∈ p.1, isSetB p.1.length r = true) (Classical.propDecidable _) (mkT p.1.length (leP p), tv (Ord p.1.length (leP p)), ()) ([], false, ()), ()) := by
  unfold zz34 zz34_s
  generalize hn : p.1.length = n
  rw [cdf (by omega), newOrder_eq (by omega), Option.bind_some]
  refine zz34_h6 n (fun i o => (∀ j, j < i → ∀ (h : j < p.1.length), isSetB n p.1[j] = true) ∧ o = mkT n fun a b => decide (b < i) && leP p a b) (by omega) ?_ ?_ 0 (by omega) _ ⟨by intro j hj; omega, mkT_congr fun a b _ _ => by simp⟩
  · intro rc i o hi hv ih
    obtain ⟨hv1, hv2⟩ := hv
    unfold zz34_b6
    have hip : i < p.1.length := by omega
    have hrow := hx _ (List.getElem_mem hip)
    rw [cdt (by omega), atI_lt _ i hip, Option.bind_some, rises_eq _ (by omega), Option.bind_some]
    cases h1 : risingB p.1[i] with
    | false =>
      rw [if_neg fun h => by have := h _ (List.getElem_mem hip); unfold isSetB at this; rw [h1, Bool.and_false] at this; cases this]
      rfl
    | true =>
      rw [Bool.not_true, cond_false, inSize_eq n _ (by omega), Option.bind_some]
      cases h2 : p.1[i].all (inB n) with
      | false =>
        rw [if_neg fun h => by have := h _ (List.getElem_mem hip); unfold isSetB at this; rw [h2, Bool.false_and] at this; cases this]
        rfl
      | true =>
        rw [Bool.not_true, cond_false]
        have hset : isSetB n p.1[i] = true := by unfold isSetB; rw [h1, h2]; rfl
        have hle : ∀ a, leP p a i = decide ((a : Int) ∈ p.1[i]) := by intro a; unfold leP; simp [hip]
        have hform := setB_form hset
        have hS : ∀ a, a ∈ fl n (fun x => decide ((x : Int) ∈ p.1[i])) ↔ a < n ∧ leP p a i = true := by
          intro a; rw [fl_mem, hle]
        generalize fl n (fun x => decide ((x : Int) ∈ p.1[i])) = S at hform hS
        rw [hform, cs_len]
        refine zz34_h11 S.length (fun k o => o = mkT n fun a b => if b < i then leP p a b else decide (b = i ∧ a ∈ S.take k)) ?_ ?_ ?_ 0 (by omega) _ ?_
        · have := congrArg List.length hform
          rw [cs_len] at this
          have := hx _ (List.getElem_mem hip)
          omega
        · intro rc2 k o2 hk hv3 ih2
          have hkn : S[k] < n := ((hS _).1 (List.getElem_mem hk)).1
          have hkS : S.length ≤ 4294967296 := by have := congrArg List.length hform; rw [cs_len] at this; omega
          unfold zz34_b11
          simp only [cdt (show (k : Int) < (S.length : Int) by omega), atI_cs hk, Option.bind_some, hv3, atI_mkR hkn, Int.toNat_natCast, get_mkR hkn, atI_mkR hi, get_mkR hi, wr1 (show k ≤ 4611686018427387904 by omega)]
          refine ih2 _ ?_
          rw [mkT_set]
          refine mkT_congr fun a b _ _ => ?_
          by_cases hb : b < i
          · rw [if_pos hb, if_pos hb, if_neg (by omega)]
          · rw [if_neg hb, if_neg hb]
            simp only [mem_take_succ hk]
            by_cases hbi : b = i
            · by_cases ha : a = S[k]
              · simp [hbi, ha]
              · simp [hbi, ha]
            · simp [hbi]
        · intro rc2 o2 hv3
          unfold zz34_b11
          rw [cdf (by omega), zz34_a11, wr1 (by omega)]
          refine ih _ ⟨fun j hj hjp => ?_, ?_⟩
          · rcases Nat.lt_or_ge j i with h | h
            · exact hv1 j h hjp
            · have : j = i := by omega
              subst this; exact hset
          · rw [hv3]
            refine mkT_congr fun a b ha _ => ?_
            by_cases hb : b < i
            · rw [if_pos hb]; simp [show b < i + 1 by omega]
            · rw [if_neg hb, List.take_length]
              by_cases hbi : b = i
              · subst hbi
                rw [decide_eq_true (show b < b + 1 by omega), Bool.true_and]
                cases h : leP p a b with
                | true => exact decide_eq_true ⟨rfl, (hS a).2 ⟨ha, h⟩⟩
                | false => exact decide_eq_false fun h3 => by rw [((hS a).1 h3.2).2] at h; cases h
              · simp [hbi, show ¬ b < i + 1 by omega]
        · rw [hv2]
          refine mkT_congr fun a b _ _ => ?_
          by_cases hb : b < i
          · simp [hb]
          · simp [hb]
  · intro rc o hv
    obtain ⟨hv1, hv2⟩ := hv
    unfold zz34_b6
    have ho : o = mkT n (leP p) := by rw [hv2]; exact mkT_congr fun a b _ hb => by simp [hb]
    rw [cdf (by omega), zz34_a6, ho, isOrder_eq (by omega), Option.bind_some, if_pos]
    intro r hr
    obtain ⟨j, hj, e⟩ := List.getElem_of_mem hr
    exact e ▸ hv1 j (by omega) hj

theorem orderOf_bad (p : PT) (hl : ¬ p.1.length ≤ 10) : zz34 big p = some (([], false, ()), ()) := by
  unfold zz34 zz34_s
  rw [cdt (by omega)]

theorem orderOf_no (p : PT) (hx : ∀ r ∈ p.1, r.length ≤ 4294967296) (h : ¬ Good p) : ∃ T, zz34 big p = some ((T, false, ()), ()) := by
  by_cases hl : p.1.length ≤ 10
  · rw [orderOf_eq p hl hx]
    by_cases hr : ∀ r ∈ p.1, isSetB p.1.length r = true
    · rw [if_pos hr, tv_f fun ho => h ⟨hl, hr, ho⟩]
      exact ⟨_, rfl⟩
    · rw [if_neg hr]
      exact ⟨_, rfl⟩
  · exact ⟨_, orderOf_bad p hl⟩

theorem orderOf_pos {n : Nat} {le : Nat → Nat → Bool} (hn : n ≤ 10) (ho : Ord n le) : zz34 big (pos n le) = some ((mkT n le, true, ()), ()) := by
  have e : ∀ x y, x < n → y < n → leP (pos n le) x y = le x y := fun x y hx hy => leP_pos hx hy
  rw [orderOf_eq _ (by rw [pos_len]; exact hn) ?_, if_pos (pos_rows n le), pos_len, tv_t (ho.congr fun x y hx hy => (e x y hx hy).symm)]
  · congr 3
    exact mkT_congr fun x y hx hy => e x y hx hy
  · intro r hr
    obtain ⟨i, _, h⟩ := mkR_mem.1 hr
    rw [← h, cs_len]
    have := fl_len n fun x => le x i
    omega

theorem atI_pos {n x : Nat} {le : Nat → Nat → Bool} (hx : x < n) : atI (pos n le).1 (x : Int) = some (cs (fl n fun a => le a x)) := atI_mkR hx

theorem l23Leq_pos {n x y : Nat} {le : Nat → Nat → Bool} (hn : n ≤ 4294967296) (hx : x < n) (hy : y < n) : zz11 (pos n le) (x : Int) (y : Int) = some (le x y, ()) := by
  unfold zz11 zz11_s
  have := fl_len n fun a => le a y
  rw [atI_pos hy, Option.bind_some, l1Has_cs _ _ (by omega), Option.bind_some]
  congr 2
  rw [Bool.eq_iff_iff, decide_eq_true_eq, fl_mem]
  simp [hx]

theorem within_fl {n : Nat} {P Q : Nat → Bool} (hn : n ≤ 4294967296) : zz9 big (cs (fl n P)) (cs (fl n Q)) = some (tv (∀ x, x < n → P x = true → Q x = true), ()) := by
  have h1 := fl_len n P
  have h2 := fl_len n Q
  rw [l5Within_eq _ _ (by rw [cs_len]; omega) (by rw [cs_len]; omega)]
  congr 2
  refine tv_congr ⟨fun h x hx hp => ?_, fun h x hx => ?_⟩
  · exact (fl_mem.1 (cs_mem.1 (h _ (cs_mem.2 (fl_mem.2 ⟨hx, hp⟩))))).2
  · unfold cs at hx
    obtain ⟨y, hy, e⟩ := List.mem_map.1 hx
    have := fl_mem.1 hy
    rw [← e]
    exact cs_mem.2 (fl_mem.2 ⟨this.1, h y this.1 this.2⟩)

theorem specPoset_eq (p : PT) (hx : ∀ r ∈ p.1, r.length ≤ 4294967296) : zz10 big p = some (tv (Good p), ()) := by
  unfold zz10 zz10_s
  by_cases hl : p.1.length ≤ 10
  · generalize hn : p.1.length = n
    rw [cdf (by omega)]
    refine zz10_h5 n (fun i => ∀ j, j < i → ∀ (h : j < p.1.length), isSetB n p.1[j] = true ∧ leP p j j = true) (by omega) ?_ ?_ 0 (by omega) (by intro j hj; omega)
    · intro rc i hi hv ih
      have hip : i < p.1.length := by omega
      have hrow := hx _ (List.getElem_mem hip)
      have hle : ∀ a, leP p a i = decide ((a : Int) ∈ p.1[i]) := by intro a; unfold leP; simp [hip]
      unfold zz10_b5
      rw [cdt (by omega), atI_lt _ i hip, Option.bind_some, wr (by omega) (by omega), specRising_eq n _ (by omega) (by omega), Option.bind_some]
      cases h1 : isSetB n p.1[i] with
      | false =>
        rw [tv_f fun h => by have := h.rows _ (List.getElem_mem hip); rw [hn, h1] at this; cases this]
        rfl
      | true =>
        rw [Bool.not_true, cond_false, Option.bind_some, l1Has_eq _ _ hrow, Option.bind_some, ← hle]
        cases h2 : leP p i i with
        | false =>
          rw [tv_f fun h => by have := h.ord.refl i hip; rw [h2] at this; cases this]
          rfl
        | true =>
          rw [Bool.not_true, cond_false, wr1 (by omega)]
          refine ih fun j hj hjp => ?_
          rcases Nat.lt_or_ge j i with h | h
          · exact hv j h hjp
          · have : j = i := by omega
            subst this; exact ⟨h1, h2⟩
    · intro rc hv
      unfold zz10_b5
      rw [cdf (by omega), zz10_a5]
      have hrows : ∀ r ∈ p.1, isSetB p.1.length r = true := by
        intro r hr
        obtain ⟨j, hj, e⟩ := List.getElem_of_mem hr
        rw [hn]
        exact e ▸ (hv j (by omega) hj).1
      have hform := pos_form hrows
      have hrefl : ∀ x, x < n → leP p x x = true := fun x hxn => (hv x hxn (by omega)).2
      generalize leP p = le at hform hrefl
      rw [hn] at hform
      subst hform
      rw [tv_congr good_pos]
      refine zz10_h10 n (fun i => ∀ x, x < i → ∀ y, y < n → le y x = true → (y ≠ x → le x y = false) ∧ ∀ z, z < n → le z y = true → le z x = true) (by omega) ?_ ?_ 0 (by omega) (by intro j hj; omega)
      · intro rc2 i hi hv2 ih2
        unfold zz10_b10
        rw [cdt (by omega)]
        have hS : ∀ a, a ∈ fl n (fun a => le a i) ↔ a < n ∧ le a i = true := fun a => fl_mem
        have hSl := fl_len n fun a => le a i
        refine zz10_h13 (fl n fun a => le a i).length (fun k => ∀ y ∈ (fl n fun a => le a i).take k, (y ≠ i → le i y = false) ∧ ∀ z, z < n → le z y = true → le z i = true) (by omega) ?_ ?_ 0 (by omega) (by simp)
        · intro rc3 k hk hv3 ih3
          have hk2 := (hS _).1 (List.getElem_mem hk)
          have hk3 := atI_cs hk
          have hk4 : ∀ {P : Nat → Prop}, (∀ y ∈ (fl n fun a => le a i).take (k + 1), P y) ↔ _ := all_take_succ hk
          unfold zz10_b13
          generalize (fl n fun a => le a i)[k] = y at hk2 hk3 hk4
          have hkl := fl_len n fun a => le a y
          simp only [atI_pos hi, Option.bind_some, cs_len, cdt (show (k : Int) < ((fl n fun a => le a i).length : Int) by omega), hk3, atI_pos hk2.1, l1Has_cs (fl n fun a => le a y) i (by omega), within_fl (P := fun a => le a y) (Q := fun a => le a i) (show n ≤ 4294967296 by omega), wr1 (show k ≤ 4611686018427387904 by omega)]
          have e1 : decide (i ∈ fl n fun a => le a y) = le i y := by
            rw [Bool.eq_iff_iff, decide_eq_true_eq, fl_mem]; simp [hi]
          rw [e1]
          have key : (y ≠ i → le i y = false) → cond (!tv (∀ x, x < n → le x y = true → le x i = true)) (some (false, ())) (rc3 (pos n le) (n : Int) (i : Int) ((k + 1 : Nat) : Int)) = some (tv (n ≤ 10 ∧ Ord n le), ()) := by
            intro h1
            by_cases h2 : ∀ x, x < n → le x y = true → le x i = true
            · rw [tv_t h2]
              exact ih3 (hk4.2 ⟨hv3, h1, h2⟩)
            · rw [tv_f h2, tv_f fun h => h2 fun x hxn h3 => h.2.trans _ _ _ hxn hk2.1 hi h3 hk2.2]
              rfl
          by_cases h1 : y = i
          · rw [cdf (by omega)]
            exact key fun h => absurd h1 h
          · rw [cdt (by omega)]
            cases h2 : le i y with
            | true =>
              rw [tv_f (P := n ≤ 10 ∧ Ord n le) fun h => by rw [h.2.anti _ _ hk2.1 hi h1 hk2.2] at h2; cases h2]
              rfl
            | false =>
              rw [cond_false]
              exact key fun _ => h2
        · intro rc3 hv3
          rw [List.take_length] at hv3
          unfold zz10_b13
          rw [atI_pos hi, Option.bind_some, cs_len, cdf (by omega), zz10_a13, wr1 (by omega)]
          exact ih2 (all_lt_succ.2 ⟨hv2, fun y hy hyi => hv3 y ((hS y).2 ⟨hy, hyi⟩)⟩)
      · intro rc2 hv2
        unfold zz10_b10
        rw [cdf (by omega), zz10_a10, tv_t]
        refine ⟨by rw [pos_len] at hl; exact hl, fun x hx => hrefl x hx, fun x y hx hy hxy h => ((hv2 y hy x hx h).1 hxy), fun x y z hx hy hz h1 h2 => (hv2 z hz y hy h2).2 x hx h1⟩
  · rw [cdt (by omega), tv_f fun h => hl h.len]

abbrev du (le : Nat → Nat → Bool) : Nat → Nat → Bool := fun x y => le y x

def low (n : Nat) (le : Nat → Nat → Bool) (S : List Nat) : List Nat := fl n fun z => S.all fun s => le z s

def grt (le : Nat → Nat → Bool) (L : List Nat) : Int := match L.find? fun x => L.all fun y => le y x with
  | some x => (x : Int)
  | none => -1

def bnd (n : Nat) (le : Nat → Nat → Bool) (S : List Nat) : Int := grt le (low n le S)

structure IsGlb (n : Nat) (le : Nat → Nat → Bool) (S : List Nat) (m : Nat) : Prop where
  lt : m < n
  lo : ∀ s ∈ S, le m s = true
  gr : ∀ z, z < n → (∀ s ∈ S, le z s = true) → le z m = true

theorem low_mem {n : Nat} {le : Nat → Nat → Bool} {S : List Nat} {z : Nat} : z ∈ low n le S ↔ z < n ∧ ∀ s ∈ S, le z s = true := by
  unfold low
  rw [fl_mem, List.all_eq_true]

theorem glb_of_bnd {n : Nat} {le : Nat → Nat → Bool} {S : List Nat} (h : 0 ≤ bnd n le S) : IsGlb n le S (bnd n le S).toNat := by
  unfold bnd grt at *
  cases hf : (low n le S).find? fun x => (low n le S).all fun y => le y x with
  | none => rw [hf] at h; exact absurd h (by decide)
  | some x =>
    have h1 := List.find?_some hf
    have h2 := low_mem.1 (List.mem_of_find?_eq_some hf)
    simp only [Int.toNat_natCast]
    exact ⟨h2.1, h2.2, fun z hz hs => List.all_eq_true.1 h1 z (low_mem.2 ⟨hz, hs⟩)⟩

theorem glb_unique {n : Nat} {le : Nat → Nat → Bool} (ho : Ord n le) {S : List Nat} {m k : Nat} (h : IsGlb n le S m) (h2 : IsGlb n le S k) : m = k := by
  by_cases e : m = k
  · exact e
  · have h3 := h.gr k h2.lt h2.lo
    have h4 := h2.gr m h.lt h.lo
    have := ho.anti m k h.lt h2.lt e h4
    rw [this] at h3; cases h3

theorem bnd_of_glb {n : Nat} {le : Nat → Nat → Bool} (ho : Ord n le) {S : List Nat} {m : Nat} (h : IsGlb n le S m) : bnd n le S = (m : Int) := by
  have h0 : 0 ≤ bnd n le S := by
    unfold bnd grt
    cases hf : (low n le S).find? fun x => (low n le S).all fun y => le y x with
    | none =>
      have := List.find?_eq_none.1 hf m (low_mem.2 ⟨h.lt, h.lo⟩)
      exact absurd (List.all_eq_true.2 fun y hy => h.gr y (low_mem.1 hy).1 (low_mem.1 hy).2) this
    | some x => simp
  have := glb_unique ho (glb_of_bnd h0) h
  omega

theorem greatest_eq {n : Nat} {le : Nat → Nat → Bool} {L : List Nat} (hL : ∀ x ∈ L, x < n) (hl : L.length ≤ 4294967296) : zz35 big (mkT n le) (cs L) = some (grt le L, ()) := by
  unfold zz35 zz35_s
  rw [cs_len]
  refine zz35_h2 L.length (fun i => ∀ x ∈ L.take i, ¬ (L.all fun y => le y x) = true) (by omega) ?_ ?_ 0 (by omega) (by simp)
  · intro rc i hi hv ih
    have hx := hL _ (List.getElem_mem hi)
    have hh := @find_hit _ L (fun x => L.all fun y => le y x) i hi hv
    have hn := fun h => ih ((all_take_succ hi).2 ⟨hv, h⟩)
    unfold zz35_b2
    rw [cdt (by omega), atI_cs hi, Option.bind_some, cs_len]
    generalize L[i] = x at hx hh hn
    refine zz35_h6 L.length (fun k b => b = (L.take k).all fun y => le y x) (by omega) ?_ ?_ 0 (by omega) _ rfl
    · intro rc2 k b hk hb ih2
      have hy := hL _ (List.getElem_mem hk)
      have ht := @all_take _ L k hk fun y => le y x
      have ha := atI_cs hk
      unfold zz35_b6
      rw [cdt (by omega), ha, Option.bind_some, wr1 (by omega)]
      generalize L[k] = y at hy ht
      cases b with
      | false => exact ih2 _ (by rw [ht, ← hb]; rfl)
      | true =>
        rw [cond_true, atI_mkR hy, Option.bind_some, atI_mkR hx, Option.bind_some]
        exact ih2 _ (by rw [ht, ← hb]; rfl)
    · intro rc2 b hb
      rw [List.take_length] at hb
      unfold zz35_b6
      rw [cdf (by omega), zz35_a6, hb]
      cases h : L.all fun y => le y x with
      | true =>
        rw [cond_true]
        unfold grt
        rw [hh h]
      | false =>
        rw [cond_false, wr1 (by omega)]
        exact hn (by rw [h]; simp)
  · intro rc hv
    rw [List.take_length] at hv
    unfold zz35_b2
    rw [cdf (by omega), zz35_a2]
    unfold grt
    rw [List.find?_eq_none.2 hv]

theorem low2 {n : Nat} {le : Nat → Nat → Bool} {x y : Nat} : low n le [x, y] = fl n fun z => le z x && le z y := by
  unfold low
  congr 1; funext z; simp

theorem those_meet {n : Nat} {le : Nat → Nat → Bool} (hn : n ≤ 1048576) {x y : Nat} (hx : x < n) (hy : y < n) : zz37 big (mkT n le) (mkT n le, (x : Int), (y : Int), ()) = some (cs (low n le [x, y]), ()) := by
  unfold zz37 zz37_s
  rw [mkR_len, low2]
  refine zz37_h3 n (fun i l => l = cs (fl i fun z => le z x && le z y)) (by omega) ?_ ?_ 0 (by omega) _ rfl
  · intro rc i l hi hv ih
    have hl := fl_len i fun z => le z x && le z y
    unfold zz37_b3 zz36 zz36_s
    simp only [cdt (show (i : Int) < (n : Int) by omega), atI_mkR hi, atI_mkR hx, atI_mkR hy, Option.bind_some, wr1 (show i ≤ 4611686018427387904 by omega)]
    cases h1 : le i x with
    | false => exact ih _ (by rw [hv]; exact fl_f (P := fun z => le z x && le z y) (by simp [h1]))
    | true =>
      simp only [cond_true, Option.bind_some]
      cases h2 : le i y with
      | false => exact ih _ (by rw [hv]; exact fl_f (P := fun z => le z x && le z y) (by simp [h1, h2]))
      | true =>
        rw [cond_true, app1 (by rw [hv, cs_len]; omega), Option.bind_some]
        exact ih _ (by rw [hv]; exact fl_t (P := fun z => le z x && le z y) (by simp [h1, h2]))
  · intro rc l hv
    unfold zz37_b3
    rw [cdf (by omega), zz37_a3, hv]

theorem low_lt {n : Nat} {le : Nat → Nat → Bool} {S : List Nat} : ∀ x ∈ low n le S, x < n := fun x hx => (low_mem.1 hx).1

theorem low_len {n : Nat} {le : Nat → Nat → Bool} {S : List Nat} : (low n le S).length ≤ n := fl_len _ _

theorem meetTable_eq {n : Nat} {le : Nat → Nat → Bool} (hn : n ≤ 1048576) : zz38 big (mkT n le) = some (@ite _ (∀ x y, x < n → y < n → 0 ≤ bnd n le [x, y]) (Classical.propDecidable _) (mkT n fun x y => bnd n le [x, y], true, ()) ([], false, ()), ()) := by
  unfold zz38 zz38_s
  rw [mkR_len]
  refine zz38_h3 n (fun i t => t = (mkR i fun x => mkR n fun y => bnd n le [x, y]) ∧ ∀ x, x < i → ∀ y, y < n → 0 ≤ bnd n le [x, y]) (by omega) ?_ ?_ 0 (by omega) _ ⟨rfl, by intro x hx; omega⟩
  · intro rc i t hi hv ih
    unfold zz38_b3
    rw [cdt (by omega), mkR_len]
    refine zz38_h7 n (fun j r => r = (mkR j fun y => bnd n le [i, y]) ∧ ∀ y, y < j → 0 ≤ bnd n le [i, y]) (by omega) ?_ ?_ 0 (by omega) _ ⟨rfl, by intro x hx; omega⟩
    · intro rc2 j r hj hr ih2
      unfold zz38_b7
      rw [cdt (by omega), those_meet hn hi hj, Option.bind_some, greatest_eq low_lt (by have := @low_len n le [i, j]; omega), Option.bind_some]
      show cond (decide (bnd n le [i, j] < 0)) _ ((appI r [bnd n le [i, j]]).bind _) = _
      by_cases h : 0 ≤ bnd n le [i, j]
      · rw [cdf (by omega), app1 (by rw [hr.1, mkR_len]; omega), Option.bind_some, wr1 (by omega)]
        exact ih2 _ ⟨by rw [hr.1]; exact (mkR_succ j _).symm, all_lt_succ.2 ⟨hr.2, h⟩⟩
      · rw [cdt (by omega), if_neg fun h2 => h (h2 i j hi hj)]
    · intro rc2 r hr
      unfold zz38_b7
      rw [cdf (by omega), zz38_a7, app1 (by rw [hv.1, mkR_len]; omega), Option.bind_some, wr1 (by omega)]
      refine ih _ ⟨?_, all_lt_succ.2 ⟨hv.2, hr.2⟩⟩
      rw [hv.1, hr.1]
      exact (mkR_succ i fun x => mkR n fun y => bnd n le [x, y]).symm
  · intro rc t hv
    unfold zz38_b3
    rw [cdf (by omega), zz38_a3, if_pos fun x y hx hy => hv.2 x hx y hy, hv.1]

theorem dual_eq {n : Nat} {le : Nat → Nat → Bool} (hn : n ≤ 1048576) : zz39 big (mkT n le) = some (mkT n (du le), ()) := by
  unfold zz39 zz39_s
  rw [mkR_len, newOrder_eq (by omega), Option.bind_some]
  refine zz39_h3 n (fun i d => d = mkT n fun a b => decide (a < i) && le b a) (by omega) ?_ ?_ 0 (by omega) _ (mkT_congr fun a b _ _ => by simp)
  · intro rc i d hi hv ih
    unfold zz39_b3
    rw [cdt (by omega), mkR_len]
    refine zz39_h6 n (fun j d => d = mkT n fun a b => (decide (a < i) || decide (a = i) && decide (b < j)) && le b a) (by omega) ?_ ?_ 0 (by omega) _ (by rw [hv]; exact mkT_congr fun a b _ _ => by simp)
    · intro rc2 j d2 hj hv2 ih2
      unfold zz39_b6
      generalize hf : (fun a b => (decide (a < i) || decide (a = i) && decide (b < j)) && le b a) = f at hv2
      simp only [cdt (show (j : Int) < (n : Int) by omega), hv2, atI_mkR hi, get_mkR hi, Option.bind_some, atI_mkR hj, get_mkR hj, Int.toNat_natCast, wr1 (show j ≤ 4611686018427387904 by omega)]
      refine ih2 _ ?_
      rw [mkT_set, ← hf]
      refine mkT_congr fun a b _ _ => ?_
      by_cases h1 : a = i
      · subst h1
        by_cases h2 : b = j
        · subst h2; simp
        · rw [if_neg fun h => h2 h.2, show decide (b < j + 1) = decide (b < j) from decide_eq_decide.2 (by omega)]
      · rw [if_neg fun h => h1 h.1]; simp [h1]
    · intro rc2 d2 hv2
      unfold zz39_b6
      rw [cdf (by omega), zz39_a6, wr1 (by omega)]
      refine ih _ ?_
      rw [hv2]
      refine mkT_congr fun a b _ hb => ?_
      congr 1
      rw [decide_eq_true hb, Bool.and_true, ← Bool.decide_or]
      exact decide_eq_decide.2 (by omega)
  · intro rc d hv
    unfold zz39_b3
    rw [cdf (by omega), zz39_a3, hv]
    congr 2
    exact mkT_congr fun a b ha _ => by simp [ha]

structure Lat (n : Nat) (le : Nat → Nat → Bool) : Prop where
  ne : 0 < n
  meet : ∀ x y, x < n → y < n → 0 ≤ bnd n le [x, y]
  join : ∀ x y, x < n → y < n → 0 ≤ bnd n (du le) [x, y]

def mt (n : Nat) (le : Nat → Nat → Bool) (x y : Nat) : Nat := (bnd n le [x, y]).toNat

def gb (n : Nat) (le : Nat → Nat → Bool) (S : List Nat) : Nat := (bnd n le S).toNat

def lat (n : Nat) (le : Nat → Nat → Bool) : List (List Bool) × List (List Int) × List (List Int) × Unit :=
  (mkT n le, mkT n (fun x y => ((mt n le x y : Nat) : Int)), mkT n (fun x y => ((mt n (du le) x y : Nat) : Int)), ())

structure LatP (n : Nat) (le : Nat → Nat → Bool) : Prop where
  le10 : n ≤ 10
  ord : Ord n le
  lat : Lat n le

theorem latticeOf_pos {n : Nat} {le : Nat → Nat → Bool} (h : LatP n le) : zz40 (pos n le) = some ((some (lat n le), true, ()), ()) := by
  have h10 := h.le10
  have h0 := h.lat.ne
  unfold zz40 zz40_s
  simp only [orderOf_pos h.le10 h.ord, Option.bind_some, Bool.not_true, cond_false, mkR_len, cdf (show ¬ ((n : Int) = 0) by omega), meetTable_eq (le := le) (show n ≤ 1048576 by omega), dual_eq (le := le) (show n ≤ 1048576 by omega), meetTable_eq (le := du le) (show n ≤ 1048576 by omega)]
  rw [if_pos h.lat.meet, if_pos h.lat.join]
  simp only [cond_true]
  have e1 : (mkT n fun x y => bnd n le [x, y]) = mkT n fun x y => ((mt n le x y : Nat) : Int) := mkT_congr fun x y hx hy => by
    have := h.lat.meet x y hx hy
    unfold mt; omega
  have e2 : (mkT n fun x y => bnd n (du le) [x, y]) = mkT n fun x y => ((mt n (du le) x y : Nat) : Int) := mkT_congr fun x y hx hy => by
    have := h.lat.join x y hx hy
    unfold mt; omega
  rw [e1, e2]
  rfl

theorem latticeOf_no {p : PT} (hx : ∀ r ∈ p.1, r.length ≤ 4294967296) (h : ¬ (Good p ∧ Lat p.1.length (leP p))) : ∃ l, zz40 p = some ((l, false, ()), ()) := by
  by_cases hg : Good p
  · have hf := hg.form
    have ho := hg.ord
    have h10 := hg.len
    replace h : ¬ Lat p.1.length (leP p) := fun hl => h ⟨hg, hl⟩
    generalize p.1.length = n at *
    generalize leP p = le at *
    subst hf
    unfold zz40 zz40_s
    simp only [orderOf_pos h10 ho, Option.bind_some, Bool.not_true, cond_false, mkR_len, meetTable_eq (le := le) (show n ≤ 1048576 by omega), dual_eq (le := le) (show n ≤ 1048576 by omega), meetTable_eq (le := du le) (show n ≤ 1048576 by omega)]
    by_cases h0 : n = 0
    · rw [cdt (by omega)]
      exact ⟨_, rfl⟩
    · rw [cdf (by omega)]
      by_cases h1 : ∀ x y, x < n → y < n → 0 ≤ bnd n le [x, y]
      · rw [if_pos h1]
        by_cases h2 : ∀ x y, x < n → y < n → 0 ≤ bnd n (du le) [x, y]
        · exact absurd ⟨by omega, h1, h2⟩ h
        · rw [if_neg h2]
          exact ⟨_, rfl⟩
      · rw [if_neg h1]
        exact ⟨_, rfl⟩
  · obtain ⟨T, hT⟩ := orderOf_no p hx hg
    unfold zz40 zz40_s
    rw [hT, Option.bind_some]
    exact ⟨_, rfl⟩

theorem specDual_pos {n : Nat} {le : Nat → Nat → Bool} (hn : n ≤ 1048576) : zz12 big (pos n le) = some (pos n (du le), ()) := by
  unfold zz12 zz12_s
  refine zz12_h3 n (fun i o => o.1 = mkR i fun y => cs (fl n fun x => le y x)) (by omega) ?_ ?_ 0 (by omega) _ rfl
  · intro rc i o hi hv ih
    unfold zz12_b3
    rw [pos_len, cdt (by omega)]
    refine zz12_h7 n (fun j l => l = cs (fl j fun x => le i x)) (by omega) ?_ ?_ 0 (by omega) _ rfl
    · intro rc2 j l hj hl ih2
      have hlen := fl_len j fun x => le i x
      unfold zz12_b7
      rw [pos_len, cdt (by omega), l23Leq_pos (by omega) hi hj, Option.bind_some, wr1 (by omega)]
      cases h : le i j with
      | true =>
        rw [cond_true, app1 (by rw [hl, cs_len]; omega), Option.bind_some]
        exact ih2 _ (by rw [hl]; exact fl_t (P := fun x => le i x) h)
      | false => exact ih2 _ (by rw [hl]; exact fl_f (P := fun x => le i x) h)
    · intro rc2 l hl
      unfold zz12_b7
      rw [pos_len, cdf (by omega), zz12_a7, app1 (by rw [hv, mkR_len]; omega), Option.bind_some, wr1 (by omega)]
      exact ih _ (by rw [hl]; show o.1 ++ _ = _; rw [hv]; exact (mkR_succ i fun y => cs (fl n fun x => le y x)).symm)
  · intro rc o hv
    unfold zz12_b3
    rw [pos_len, cdf (by omega), zz12_a3]
    unfold pos
    congr 2
    exact Prod.ext hv rfl

theorem specBound_pos {n : Nat} {le : Nat → Nat → Bool} (hn : n ≤ 1048576) {S : List Nat} (hS : ∀ s ∈ S, s < n) (hSl : S.length ≤ 4294967296) : zz13 big (pos n le) (cs S) = some (bnd n le S, ()) := by
  unfold zz13 zz13_s
  refine zz13_h3 n (fun i l => l = cs (fl i fun z => S.all fun s => le z s)) (by omega) ?_ ?_ 0 (by omega) _ rfl
  · intro rc i l hi hv ih
    have hlen := fl_len i fun z => S.all fun s => le z s
    unfold zz13_b3
    rw [pos_len, cdt (by omega)]
    refine zz13_h7 S.length (fun k b => b = (S.take k).all fun s => le i s) (by omega) ?_ ?_ 0 (by omega) _ rfl
    · intro rc2 k b hk hb ih2
      have hs := hS _ (List.getElem_mem hk)
      have ht := @all_take _ S k hk fun s => le i s
      have ha := atI_cs hk
      unfold zz13_b7
      rw [cs_len, cdt (by omega), ha, Option.bind_some, wr1 (by omega)]
      generalize S[k] = s at hs ht
      rw [l23Leq_pos (by omega) hi hs, Option.bind_some]
      cases b with
      | true => exact ih2 _ (by rw [ht, ← hb]; rfl)
      | false => exact ih2 _ (by rw [ht, ← hb]; rfl)
    · intro rc2 b hb
      rw [List.take_length] at hb
      unfold zz13_b7
      rw [cs_len, cdf (by omega), zz13_a7, wr1 (by omega)]
      cases b with
      | true =>
        rw [cond_true, app1 (by rw [hv, cs_len]; omega), Option.bind_some]
        exact ih _ (by rw [hv]; exact fl_t (P := fun z => S.all fun s => le z s) hb.symm)
      | false => exact ih _ (by rw [hv]; exact fl_f (P := fun z => S.all fun s => le z s) hb.symm)
  · intro rc l hv
    unfold zz13_b3
    rw [pos_len, cdf (by omega), zz13_a3]
    replace hv : l = cs (low n le S) := hv
    rw [hv]
    have hll := @low_len n le S
    unfold bnd
    have hlt := @low_lt n le S
    have hfl : low n le S = fl n fun z => S.all fun s => le z s := rfl
    have hw : ∀ x, x < n → zz9 big (cs (low n le S)) (cs (fl n fun a => le a x)) = some ((low n le S).all fun y => le y x, ()) := by
      intro x hx
      rw [hfl, within_fl (by omega), ← hfl]
      congr 2
      exact tv_eq (by rw [List.all_eq_true]; exact ⟨fun h y hy hp => h y (fl_mem.2 ⟨hy, hp⟩), fun h y hy => h y (fl_mem.1 hy).1 (fl_mem.1 hy).2⟩)
    generalize low n le S = L at *
    refine zz13_h13 L.length (fun i => ∀ x ∈ L.take i, ¬ (L.all fun y => le y x) = true) (by omega) ?_ ?_ 0 (by omega) (by simp)
    · intro rc2 i hi hv2 ih2
      have hx := hlt _ (List.getElem_mem hi)
      have hh := @find_hit _ L (fun x => L.all fun y => le y x) i hi hv2
      have hn2 := fun h => ih2 ((all_take_succ hi).2 ⟨hv2, h⟩)
      have ha := atI_cs hi
      have hg := get_cs hi
      unfold zz13_b13
      simp only [cs_len, cdt (show (i : Int) < (L.length : Int) by omega), ha, Option.bind_some, Int.toNat_natCast, hg, wr1 (show i ≤ 4611686018427387904 by omega)]
      generalize L[i] = x at hx hh hn2
      rw [atI_pos hx, Option.bind_some, hw x hx, Option.bind_some]
      cases h : L.all fun y => le y x with
      | true =>
        rw [cond_true]
        unfold grt
        rw [hh h]
      | false =>
        rw [cond_false]
        exact hn2 (by rw [h]; simp)
    · intro rc2 hv2
      rw [List.take_length] at hv2
      unfold zz13_b13
      rw [cs_len, cdf (by omega), zz13_a13]
      unfold grt
      rw [List.find?_eq_none.2 hv2]

theorem bnd_swap {n : Nat} {le : Nat → Nat → Bool} (x y : Nat) : bnd n le [x, y] = bnd n le [y, x] := by
  unfold bnd
  congr 1
  unfold low
  congr 1; funext z; simp [Bool.and_comm]

theorem Ord.du {n : Nat} {le : Nat → Nat → Bool} (h : Ord n le) : Ord n (du le) where
  refl := h.refl
  anti x y hx hy hxy h1 := by
    have h3 : le y x = true := h1
    show le x y = false
    by_cases h2 : le x y = true
    · rw [h.anti x y hx hy hxy h2] at h3; cases h3
    · simpa using h2
  trans x y z hx hy hz h1 h2 := h.trans z y x hz hy hx h2 h1

theorem bnd_self {n : Nat} {le : Nat → Nat → Bool} (ho : Ord n le) {x : Nat} (hx : x < n) : bnd n le [x, x] = (x : Int) :=
  bnd_of_glb ho ⟨hx, by simp [ho.refl x hx], fun z _ h => h x (by simp)⟩

theorem spec24_eq (p : PT) (hx : ∀ r ∈ p.1, r.length ≤ 4294967296) : zz14 big p = some (tv (Good p ∧ Lat p.1.length (leP p)), ()) := by
  unfold zz14 zz14_s
  rw [specPoset_eq p hx, Option.bind_some]
  by_cases hg : Good p
  · rw [tv_t hg]
    have e : (Good p ∧ Lat p.1.length (leP p)) ↔ Lat p.1.length (leP p) := ⟨fun h => h.2, fun h => ⟨hg, h⟩⟩
    rw [tv_congr e, Bool.not_true, cond_false]
    have hf := hg.form
    have ho := hg.ord
    have h10 := hg.len
    clear e hg hx
    generalize p.1.length = n at *
    generalize leP p = le at *
    subst hf
    by_cases h0 : n = 0
    · rw [cdt (by omega), tv_f fun h => by have := h.ne; omega]
    · rw [cdf (by omega), specDual_pos (by omega), Option.bind_some]
      have key : ∀ x y, x < n → y < n → (0 ≤ bnd n le [x, y] ↔ 0 ≤ bnd n le [y, x]) := fun x y _ _ => by rw [bnd_swap]
      refine zz14_h5 n (fun i => ∀ x, x < i → ∀ y, y < x → 0 ≤ bnd n le [x, y] ∧ 0 ≤ bnd n (du le) [x, y]) (by omega) ?_ ?_ 0 (by omega) (by intro x hx; omega)
      · intro rc i hi hv ih
        unfold zz14_b5
        rw [pos_len, cdt (by omega)]
        refine zz14_h8 i (fun j => ∀ y, y < j → 0 ≤ bnd n le [i, y] ∧ 0 ≤ bnd n (du le) [i, y]) (by omega) ?_ ?_ 0 (by omega) (by intro x hx; omega)
        · intro rc2 j hj hv2 ih2
          unfold zz14_b8
          have e : ([(i : Int), (j : Int)] : List Int) = cs [i, j] := rfl
          have hS : ∀ s ∈ [i, j], s < n := by intro s hs; simp at hs; omega
          rw [cdt (by omega), e, specBound_pos (by omega) hS (by simp), Option.bind_some, specBound_pos (le := du le) (by omega) hS (by simp), Option.bind_some]
          by_cases h1 : 0 ≤ bnd n le [i, j]
          · rw [cdf (by omega)]
            by_cases h2 : 0 ≤ bnd n (du le) [i, j]
            · rw [cdf (by omega), wr1 (by omega)]
              exact ih2 (all_lt_succ.2 ⟨hv2, h1, h2⟩)
            · rw [cdt (by omega), tv_f fun h => h2 (h.join i j hi (by omega))]
          · rw [cdt (by omega), tv_f fun h => h1 (h.meet i j hi (by omega))]
        · intro rc2 hv2
          unfold zz14_b8
          rw [cdf (by omega), zz14_a8, wr1 (by omega)]
          exact ih (all_lt_succ.2 ⟨hv, hv2⟩)
      · intro rc hv
        unfold zz14_b5
        rw [pos_len, cdf (by omega), zz14_a5, tv_t]
        refine ⟨by omega, fun x y hx hy => ?_, fun x y hx hy => ?_⟩
        · rcases Nat.lt_trichotomy x y with h | h | h
          · rw [bnd_swap]; exact (hv y hy x h).1
          · subst h; rw [bnd_self ho hx]; omega
          · exact (hv x hx y h).1
        · rcases Nat.lt_trichotomy x y with h | h | h
          · rw [bnd_swap]; exact (hv y hy x h).2
          · subst h; rw [bnd_self ho.du hx]; omega
          · exact (hv x hx y h).2
  · rw [tv_f hg, tv_f fun h => hg h.1]
    rfl

theorem lat_cases {p : PT} (hx : ∀ r ∈ p.1, r.length ≤ 4294967296) : (∃ n le, p = pos n le ∧ LatP n le ∧ zz14 big p = some (true, ()) ∧ zz40 p = some ((some (lat n le), true, ()), ())) ∨
    (zz14 big p = some (false, ()) ∧ ∃ l, zz40 p = some ((l, false, ()), ())) := by
  by_cases h : Good p ∧ Lat p.1.length (leP p)
  · have hl : LatP p.1.length (leP p) := ⟨h.1.len, h.1.ord, h.2⟩
    refine .inl ⟨p.1.length, leP p, h.1.form, hl, by rw [spec24_eq p hx, tv_t h], ?_⟩
    have := latticeOf_pos hl
    rw [← h.1.form] at this
    exact this
  · exact .inr ⟨by rw [spec24_eq p hx, tv_f h], latticeOf_no hx h⟩

theorem those_lattice_isComplemented_c1 {n : Nat} {o : List (List Bool)} (ho : o.length = n) (hn : n ≤ 1048576) {c : ((Option ((List (List Bool)) × ((List (List Int)) × ((List (List Int)) × Unit)))) × Unit)} {P : Nat → Bool} (h : ∀ i, i < n → zz49 (i : Int) c.1 = some (P i, ())) : zz50 big o c = some (cs (fl n P), ()) := by
  unfold zz50 zz50_s
  rw [ho]
  refine zz50_h3 n (fun i l => l = cs (fl i P)) (by omega) ?_ ?_ 0 (by omega) _ rfl
  · intro rc i l hi hv ih
    have hl := fl_len i P
    unfold zz50_b3
    rw [cdt (by omega), h i hi, Option.bind_some, wr1 (by omega)]
    cases hp : P i with
    | true => rw [cond_true, app1 (by rw [hv, cs_len]; omega), Option.bind_some]; exact ih _ (by rw [hv]; exact fl_t hp)
    | false => exact ih _ (by rw [hv]; exact fl_f hp)
  · intro rc l hv
    unfold zz50_b3
    rw [cdf (by omega), zz50_a3, hv]

theorem those_lattice_relative_c1 {n : Nat} {o : List (List Bool)} (ho : o.length = n) (hn : n ≤ 1048576) {c : ((Option ((List (List Bool)) × ((List (List Int)) × ((List (List Int)) × Unit)))) × (Int × (Int × (Int × Unit))))} {P : Nat → Bool} (h : ∀ i, i < n → zz45 (i : Int) c.1 c.2.1 c.2.2.1 c.2.2.2.1 = some (P i, ())) : zz46 big o c = some (cs (fl n P), ()) := by
  unfold zz46 zz46_s
  rw [ho]
  refine zz46_h3 n (fun i l => l = cs (fl i P)) (by omega) ?_ ?_ 0 (by omega) _ rfl
  · intro rc i l hi hv ih
    have hl := fl_len i P
    unfold zz46_b3
    rw [cdt (by omega), h i hi, Option.bind_some, wr1 (by omega)]
    cases hp : P i with
    | true => rw [cond_true, app1 (by rw [hv, cs_len]; omega), Option.bind_some]; exact ih _ (by rw [hv]; exact fl_t hp)
    | false => exact ih _ (by rw [hv]; exact fl_f hp)
  · intro rc l hv
    unfold zz46_b3
    rw [cdf (by omega), zz46_a3, hv]

theorem szIntS_eq (a : List Int) (l : Int) (h : a.length ≤ 9223372036854775807) (h0 : 0 ≤ l) (h1 : l ≤ 1048576) : ∃ v, zz0 a l = some (v, ()) ∧ v ≤ 1048576 ∧ (0 ≤ v → a.length ≤ 1048576) := by
  unfold zz0 zz0_s
  rw [wr (by omega) (by omega)]
  by_cases hl : l - (a.length : Int) < 0
  · rw [cdt hl]
    exact ⟨_, rfl, by omega, by omega⟩
  · rw [cdf hl]
    exact ⟨_, rfl, by omega, by omega⟩

theorem szIntSS_l (N : Nat) : ∀ (n : Nat) (a : List (List Int)) (l : Int) (i : Nat), a.length - i < n → i ≤ a.length → a.length ≤ 1048576 → 0 ≤ l → l ≤ 1048576 → (∀ x ∈ a, x.length ≤ 9223372036854775807) →
    ∃ v, zz1_l5 N zz1_a5 n a l i = some (v, ()) ∧ v ≤ 1048576 ∧ (0 ≤ v → ∀ x ∈ a.drop i, x.length ≤ 1048576)
  | 0, _, _, _, h, _, _, _, _, _ => by omega
  | n + 1, a, l, i, h, hi, hb, h0, h1, hx => by
    simp only [zz1_l5, zz1_b5]
    by_cases hlt : i < a.length
    · obtain ⟨v, hv, hv1, hv2⟩ := szIntS_eq _ l (hx _ (List.getElem_mem hlt)) h0 h1
      rw [cdt (by omega), atI_lt a i hlt, Option.bind_some, hv, Option.bind_some, wr1 (by omega)]
      by_cases hl : v < 0
      · rw [cdt hl]
        exact ⟨_, rfl, by omega, by omega⟩
      · rw [cdf hl]
        obtain ⟨w, hw, hw1, hw2⟩ := szIntSS_l N n a v (i + 1) (by omega) (by omega) hb (by omega) hv1 hx
        refine ⟨w, hw, hw1, fun h x hx' => ?_⟩
        rw [List.drop_eq_getElem_cons hlt] at hx'
        rcases List.mem_cons.1 hx' with rfl | hx'
        · exact hv2 (by omega)
        · exact hw2 h x hx'
    · rw [cdf (by omega), List.drop_eq_nil_of_le (by omega)]
      exact ⟨_, rfl, h1, by simp⟩

theorem szIntSS_eq (a : List (List Int)) (l : Int) (ha : a.length ≤ 9223372036854775807) (hx : ∀ x ∈ a, x.length ≤ 9223372036854775807) (h0 : 0 ≤ l) (h1 : l ≤ 1048576) : ∃ v, zz1 big a l = some (v, ()) ∧ v ≤ 1048576 ∧ (0 ≤ v → a.length ≤ 1048576 ∧ ∀ x ∈ a, x.length ≤ 1048576) := by
  have hb := big_ge
  unfold zz1 zz1_s
  rw [wr (by omega) (by omega)]
  by_cases h : l - (a.length : Int) < 0
  · rw [cdt h]
    exact ⟨_, rfl, by omega, by omega⟩
  · rw [cdf h]
    unfold zz1_F5
    obtain ⟨v, hv, hv1, hv2⟩ := szIntSS_l big big a (l - a.length) 0 (by omega) (by omega) (by omega) (by omega) (by omega) hx
    exact ⟨v, hv, hv1, fun h0 => ⟨by omega, by simpa using hv2 h0⟩⟩

def SmallP (p : PT) : Prop := p.1.length ≤ 1048576 ∧ ∀ r ∈ p.1, r.length ≤ 1048576

theorem szPoset_eq (p : PT) (l : Int) (hw : Wf (.pair (.sl (.sl I)) .unit) p) (h0 : 0 ≤ l) (h1 : l ≤ 1048576) : ∃ v, zz2 p l = some (v, ()) ∧ v ≤ 1048576 ∧ (0 ≤ v → SmallP p) := by
  simp only [Wf, maxLen] at hw
  obtain ⟨v, hv, hv1, hv2⟩ := szIntSS_eq p.1 l hw.1.1 (fun x hx => (hw.1.2 x hx).1) h0 h1
  unfold zz2 zz2_s
  rw [hv, Option.bind_some]
  by_cases h : v < 0
  · rw [cdt h]
    exact ⟨_, rfl, by omega, by omega⟩
  · rw [cdf h]
    exact ⟨_, rfl, hv1, hv2⟩

theorem toIntSS_eq (a : List (List Int)) (h : a.length ≤ 4294967296) (hx : ∀ x ∈ a, x.length ≤ 4294967296) : zz4 big a = some (a, ()) := by
  unfold zz4 zz4_s
  rw [mkI_nat _ _ h, Option.bind_some, Option.bind_some, cdt (by omega)]
  refine zz4_h3 a.length (fun i o => o.length = a.length ∧ o.take i = a.take i) (by omega) ?_ ?_ 0 (by omega) _ ⟨by simp, rfl⟩
  · intro rc i o hi hv ih
    have ho : i < o.length := by omega
    unfold zz4_b3
    rw [cdt (by omega), atI_lt a i hi, Option.bind_some, toIntS_eq _ (hx _ (List.getElem_mem hi)), Option.bind_some, atI_lt o i ho, Option.bind_some, Int.toNat_natCast, List.getElem?_eq_getElem ho, Option.bind_some, wr1 (by omega)]
    refine ih _ ⟨by rw [List.length_set]; exact hv.1, ?_⟩
    rw [List.take_succ_eq_append_getElem (by rw [List.length_set]; exact ho), List.take_succ_eq_append_getElem hi, List.getElem_set_self, List.take_set, List.set_eq_of_length_le (by rw [List.length_take]; omega), hv.2]
  · intro rc o hv
    unfold zz4_b3
    have h1 := hv.2
    rw [List.take_length, ← hv.1, List.take_length] at h1
    rw [cdf (by omega), zz4_a3, h1]

theorem toPoset_eq {p : PT} (h : SmallP p) : zz5 p = some (p, ()) := by
  unfold zz5 zz5_s
  have := h.1
  rw [toIntSS_eq p.1 (by omega) fun x hx => by have := h.2 x hx; omega]
  rfl

theorem eqPoset_eq {p q : PT} (h : SmallP p) : zz67 p q = some (decide (p = q), ()) := by
  unfold zz67 zz67_s
  have := h.1
  rw [eqIntSS_eq p.1 q.1 (by omega) fun x hx => by have := h.2 x hx; omega]
  rw [Option.bind_some]
  by_cases e : p = q
  · subst e; simp
  · rw [decide_eq_false e, decide_eq_false fun h => e (Prod.ext h rfl)]; rfl

theorem SmallP.rows {p : PT} (h : SmallP p) : ∀ r ∈ p.1, r.length ≤ 4294967296 := fun r hr => by have := h.2 r hr; omega

def ls (le : Nat → Nat → Bool) (x y : Nat) : Bool := decide (x ≠ y) && le x y

theorem has_eq {n : Nat} {le : Nat → Nat → Bool} (s : List Int) (h : s.length ≤ 4294967296) : zz56 (mkT n le) s = some (s.all (inB n), ()) := by
  unfold zz56 zz56_s
  rw [mkR_len, inSize_eq n s (by omega)]; rfl

theorem LatP.du {n : Nat} {le : Nat → Nat → Bool} (h : LatP n le) : LatP n (du le) := ⟨h.le10, Ord.du h.ord, h.lat.ne, h.lat.join, h.lat.meet⟩

theorem LatP.glb {n : Nat} {le : Nat → Nat → Bool} (h : LatP n le) {x y : Nat} (hx : x < n) (hy : y < n) : IsGlb n le [x, y] (mt n le x y) := glb_of_bnd (h.lat.meet x y hx hy)

theorem LatP.bnd2 {n : Nat} {le : Nat → Nat → Bool} (h : LatP n le) {x y : Nat} (hx : x < n) (hy : y < n) : bnd n le [x, y] = ((mt n le x y : Nat) : Int) := by
  have := h.lat.meet x y hx hy
  unfold mt; omega

theorem LatP.mlt {n : Nat} {le : Nat → Nat → Bool} (h : LatP n le) {x y : Nat} (hx : x < n) (hy : y < n) : mt n le x y < n := (h.glb hx hy).lt

theorem LatP.m1 {n : Nat} {le : Nat → Nat → Bool} (h : LatP n le) {x y : Nat} (hx : x < n) (hy : y < n) : le (mt n le x y) x = true := (h.glb hx hy).lo x (by simp)

theorem LatP.m2 {n : Nat} {le : Nat → Nat → Bool} (h : LatP n le) {x y : Nat} (hx : x < n) (hy : y < n) : le (mt n le x y) y = true := (h.glb hx hy).lo y (by simp)

theorem LatP.mg {n : Nat} {le : Nat → Nat → Bool} (h : LatP n le) {x y z : Nat} (hx : x < n) (hy : y < n) (hz : z < n) (h1 : le z x = true) (h2 : le z y = true) : le z (mt n le x y) = true :=
  (h.glb hx hy).gr z hz (by simp [h1, h2])

theorem LatP.tr {n : Nat} {le : Nat → Nat → Bool} (h : LatP n le) {x y z : Nat} (hx : x < n) (hy : y < n) (hz : z < n) (h1 : le x y = true) (h2 : le y z = true) : le x z = true := h.ord.trans x y z hx hy hz h1 h2

theorem LatP.as {n : Nat} {le : Nat → Nat → Bool} (h : LatP n le) {x y : Nat} (hx : x < n) (hy : y < n) (h1 : le x y = true) (h2 : le y x = true) : x = y := by
  by_cases e : x = y
  · exact e
  · rw [h.ord.anti x y hx hy e h1] at h2; cases h2

theorem mt_comm {n : Nat} {le : Nat → Nat → Bool} (x y : Nat) : mt n le x y = mt n le y x := by unfold mt; rw [bnd_swap]

theorem topEx {n : Nat} {le : Nat → Nat → Bool} (h : LatP n le) : ∃ t, IsGlb n le [] t := by
  have key : ∀ i, i ≤ n → ∃ t, t < n ∧ ∀ x, x < i → le x t = true := by
    intro i
    induction i with
    | zero => exact fun _ => ⟨0, h.lat.ne, by intro x hx; omega⟩
    | succ i ih =>
      intro hi
      obtain ⟨t, ht, h1⟩ := ih (by omega)
      have hin : i < n := by omega
      refine ⟨mt n (Ytlndlclemhfekaa.du le) t i, h.du.mlt ht hin, all_lt_succ.2 ⟨fun x hx => ?_, h.du.m2 ht hin⟩⟩
      exact h.tr (by omega) ht (h.du.mlt ht hin) (h1 x hx) (h.du.m1 ht hin)
  obtain ⟨t, ht, h1⟩ := key n (by omega)
  exact ⟨t, ht, by simp, fun z hz _ => h1 z hz⟩

theorem glbEx {n : Nat} {le : Nat → Nat → Bool} (h : LatP n le) : ∀ S : List Nat, (∀ s ∈ S, s < n) → ∃ m, IsGlb n le S m
  | [], _ => topEx h
  | s :: S, hS => by
    obtain ⟨m, hm⟩ := glbEx h S fun x hx => hS x (by simp [hx])
    have hs := hS s (by simp)
    refine ⟨mt n le s m, h.mlt hs hm.lt, fun x hx => ?_, fun z hz hx => ?_⟩
    · rcases List.mem_cons.1 hx with rfl | hx'
      · exact h.m1 hs hm.lt
      · exact h.tr (h.mlt hs hm.lt) hm.lt (hS x hx) (h.m2 hs hm.lt) (hm.lo x hx')
    · exact h.mg hs hm.lt hz (hx s (by simp)) (hm.gr z hz fun x hx' => hx x (by simp [hx']))

theorem LatP.gbs {n : Nat} {le : Nat → Nat → Bool} (h : LatP n le) {S : List Nat} (hS : ∀ s ∈ S, s < n) : IsGlb n le S (gb n le S) := by
  obtain ⟨m, hm⟩ := glbEx h S hS
  unfold gb
  rw [bnd_of_glb h.ord hm]
  exact hm

theorem LatP.bnds {n : Nat} {le : Nat → Nat → Bool} (h : LatP n le) {S : List Nat} (hS : ∀ s ∈ S, s < n) : bnd n le S = ((gb n le S : Nat) : Int) := bnd_of_glb h.ord (h.gbs hS)

theorem gb_eq {n : Nat} {le : Nat → Nat → Bool} (h : LatP n le) {S : List Nat} {m : Nat} (hm : IsGlb n le S m) : gb n le S = m := by
  unfold gb; rw [bnd_of_glb h.ord hm]; rfl

theorem noneLt {n : Nat} : ∀ s ∈ ([] : List Nat), s < n := fun s hs => by cases hs

theorem lat1 (n : Nat) (le : Nat → Nat → Bool) : (lat n le).1 = mkT n le := rfl

theorem lat2 (n : Nat) (le : Nat → Nat → Bool) : (lat n le).2.1 = mkT n fun x y => ((mt n le x y : Nat) : Int) := rfl

theorem lat3 (n : Nat) (le : Nat → Nat → Bool) : (lat n le).2.2.1 = mkT n fun x y => ((mt n (du le) x y : Nat) : Int) := rfl

theorem l24Meet_eq {n : Nat} {le : Nat → Nat → Bool} (h : LatP n le) {x y : Nat} (hx : x < n) (hy : y < n) : zz16 (pos n le) (x : Int) (y : Int) = some (((mt n le x y : Nat) : Int), ()) := by
  have := h.le10
  unfold zz16 zz16_s
  rw [show ([(x : Int), (y : Int)] : List Int) = cs [x, y] from rfl, specBound_pos (by omega) (by simp [hx, hy]) (by simp), Option.bind_some, h.bnd2 hx hy]

theorem l24Join_eq {n : Nat} {le : Nat → Nat → Bool} (h : LatP n le) {x y : Nat} (hx : x < n) (hy : y < n) : zz15 (pos n le) (x : Int) (y : Int) = some (((mt n (du le) x y : Nat) : Int), ()) := by
  have := h.le10
  unfold zz15 zz15_s
  rw [specDual_pos (by omega), Option.bind_some, show ([(x : Int), (y : Int)] : List Int) = cs [x, y] from rfl, specBound_pos (by omega) (by simp [hx, hy]) (by simp), Option.bind_some, h.du.bnd2 hx hy]

theorem specBoundL {n : Nat} {le : Nat → Nat → Bool} (h : LatP n le) {S : List Nat} (hS : ∀ s ∈ S, s < n) (hl : S.length ≤ 4294967296) : zz13 big (pos n le) (cs S) = some (((gb n le S : Nat) : Int), ()) := by
  have := h.le10
  rw [specBound_pos (by omega) hS hl, h.bnds hS]

theorem specTop_eq {n : Nat} {le : Nat → Nat → Bool} (h : LatP n le) : zz20 (pos n le) = some (((gb n le [] : Nat) : Int), ()) := by
  unfold zz20 zz20_s
  rw [show ([] : List Int) = cs [] from rfl, specBoundL h noneLt (by simp)]; rfl

theorem specBottom_eq {n : Nat} {le : Nat → Nat → Bool} (h : LatP n le) : zz19 (pos n le) = some (((gb n (du le) [] : Nat) : Int), ()) := by
  have := h.le10
  unfold zz19 zz19_s
  rw [specDual_pos (by omega), Option.bind_some, show ([] : List Int) = cs [] from rfl, specBoundL h.du noneLt (by simp)]; rfl

theorem top_eq {n : Nat} {le : Nat → Nat → Bool} (h : LatP n le) : zz44 big (some (lat n le)) = some (((gb n le [] : Nat) : Int), ()) := by
  have h10 := h.le10
  unfold zz44 zz44_s
  rw [Option.bind_some, lat1, mkR_len]
  refine zz44_h3 n (fun i t => ∃ k : Nat, t = (k : Int) ∧ k < n ∧ ∀ x, x < i → le x k = true) (by omega) ?_ ?_ 0 (by omega) _ ⟨0, rfl, h.lat.ne, by intro x hx; omega⟩
  · intro rc i t hi hv ih
    obtain ⟨k, e, hk, h1⟩ := hv
    subst e
    unfold zz44_b3
    rw [cdt (by omega), Option.bind_some, lat3, atI_mkR hk, Option.bind_some, atI_mkR hi, Option.bind_some, wr1 (by omega)]
    refine ih _ ⟨mt n (Ytlndlclemhfekaa.du le) k i, rfl, h.du.mlt hk hi, all_lt_succ.2 ⟨fun x hx => ?_, h.du.m2 hk hi⟩⟩
    exact h.tr (by omega) hk (h.du.mlt hk hi) (h1 x hx) (h.du.m1 hk hi)
  · intro rc t hv
    obtain ⟨k, e, hk, h1⟩ := hv
    subst e
    unfold zz44_b3
    rw [cdf (by omega), zz44_a3, gb_eq h ⟨hk, by simp, fun z hz _ => h1 z hz⟩]

theorem bottom_eq {n : Nat} {le : Nat → Nat → Bool} (h : LatP n le) : zz43 big (some (lat n le)) = some (((gb n (du le) [] : Nat) : Int), ()) := by
  have h10 := h.le10
  unfold zz43 zz43_s
  rw [Option.bind_some, lat1, mkR_len]
  refine zz43_h3 n (fun i t => ∃ k : Nat, t = (k : Int) ∧ k < n ∧ ∀ x, x < i → le k x = true) (by omega) ?_ ?_ 0 (by omega) _ ⟨0, rfl, h.lat.ne, by intro x hx; omega⟩
  · intro rc i t hi hv ih
    obtain ⟨k, e, hk, h1⟩ := hv
    subst e
    unfold zz43_b3
    rw [cdt (by omega), Option.bind_some, lat2, atI_mkR hk, Option.bind_some, atI_mkR hi, Option.bind_some, wr1 (by omega)]
    refine ih _ ⟨mt n le k i, rfl, h.mlt hk hi, all_lt_succ.2 ⟨fun x hx => ?_, h.m2 hk hi⟩⟩
    exact h.tr (h.mlt hk hi) hk (by omega) (h.m1 hk hi) (h1 x hx)
  · intro rc t hv
    obtain ⟨k, e, hk, h1⟩ := hv
    subst e
    unfold zz43_b3
    rw [cdf (by omega), zz43_a3, gb_eq h.du ⟨hk, by simp, fun z hz _ => h1 z hz⟩]

theorem markIntSS_ok (a : List (List Int)) (k : Int) (h : a.length ≤ 1048576) (hx : ∀ x ∈ a, x.length ≤ 1048576) (hk : 0 ≤ k) (hk2 : k ≤ 9000000000000) : ∃ v j, zz69 big a k = some (j, (v, ())) ∧ 0 ≤ j ∧ j ≤ k + 1048576 * 1048576 := by
  unfold zz69 zz69_s
  suffices H : ∀ (n : Nat) (b : List (List Int)) (i : Nat) (k2 : Int), b.length = a.length → (∀ x ∈ b.drop i, x.length ≤ 1048576) → i ≤ a.length → a.length - i < n → 0 ≤ k2 → k2 ≤ k + i * 1048576 → ∃ v j, zz69_l2 big zz69_a2 n b k2 i = some (j, (v, ())) ∧ 0 ≤ j ∧ j ≤ k + 1048576 * 1048576 from by
    have := big_ge
    exact H big a 0 k rfl (by simpa using hx) (by omega) (by omega) hk (by omega)
  intro n
  induction n with
  | zero => intro b i k2 _ _ _ hn; omega
  | succ n ih =>
    intro b i k2 hbl hb hi hn hk0 hk3
    simp only [zz69_l2, zz69_b2]
    by_cases hlt : i < a.length
    · have hlb : i < b.length := by omega
      have hbi : b[i].length ≤ 1048576 := hb _ (by rw [List.drop_eq_getElem_cons hlb]; exact List.mem_cons_self)
      rw [cdt (by omega), atI_lt b i hlb, Option.bind_some, Int.toNat_natCast, List.getElem?_eq_getElem hlb, Option.bind_some, Option.bind_some, markIntS_eq2 _ k2 (by omega) hk0 (by omega), Option.bind_some, Option.bind_some, Option.bind_some, wr1 (by omega)]
      refine ih _ (i + 1) _ (by rw [List.length_set]; exact hbl) ?_ (by omega) (by omega) (by omega) (by omega)
      rw [List.drop_set, if_pos (by omega)]
      intro x hx'
      exact hb x (by rw [List.drop_eq_getElem_cons hlb]; exact List.mem_cons_of_mem _ hx')
    · rw [cdf (by omega)]
      exact ⟨b, k2, rfl, hk0, by omega⟩

theorem markPoset_ok {p : PT} (h : SmallP p) (k : Int) (hk : 0 ≤ k) (hk2 : k ≤ 1048576) : ∃ v j, zz70 p k = some (j, (v, ())) ∧ 0 ≤ j ∧ j ≤ 10995116277760 := by
  obtain ⟨v, j, h1, h2, h3⟩ := markIntSS_ok p.1 k h.1 h.2 hk (by omega)
  unfold zz70
  rw [h1]
  exact ⟨_, _, rfl, h2, by omega⟩

abbrev bt (n : Nat) (le : Nat → Nat → Bool) : Nat := gb n (du le) []

abbrev tp (n : Nat) (le : Nat → Nat → Bool) : Nat := gb n le []

def Dis (n : Nat) (le : Nat → Nat → Bool) : Prop := ∀ x y z, x < n → y < n → z < n → mt n le x (mt n (du le) y z) = mt n (du le) (mt n le x y) (mt n le x z)

theorem bt_lt {n : Nat} {le : Nat → Nat → Bool} (h : LatP n le) : bt n le < n := (h.du.gbs noneLt).lt

theorem bt_le {n : Nat} {le : Nat → Nat → Bool} (h : LatP n le) {x : Nat} (hx : x < n) : le (bt n le) x = true := (h.du.gbs noneLt).gr x hx (by simp)

theorem jlt {n : Nat} {le : Nat → Nat → Bool} (h : LatP n le) {x y : Nat} (hx : x < n) (hy : y < n) : mt n (du le) x y < n := h.du.mlt hx hy

theorem j1 {n : Nat} {le : Nat → Nat → Bool} (h : LatP n le) {x y : Nat} (hx : x < n) (hy : y < n) : le x (mt n (du le) x y) = true := h.du.m1 hx hy

theorem uneven_eq {n : Nat} {le : Nat → Nat → Bool} (h : LatP n le) : ∃ U, zz41 big (some (lat n le)) = some (U, ()) ∧ U.isNone = tv (Dis n le) := by
  have h10 := h.le10
  unfold zz41 zz41_s
  rw [Option.bind_some, lat1, mkR_len]
  refine zz41_q2 (Q := fun o => ∃ U, o = some (U, ()) ∧ U.isNone = tv (Dis n le)) n (fun i => ∀ x, x < i → ∀ y, y < n → ∀ z, z < n → mt n le x (mt n (du le) y z) = mt n (du le) (mt n le x y) (mt n le x z)) (by omega) ?_ ?_ 0 (by omega) (by intro x hx; omega)
  · intro rc i hi hv ih
    unfold zz41_b2
    rw [cdt (by omega), Option.bind_some, lat1, mkR_len]
    refine zz41_q5 (Q := fun o => ∃ U, o = some (U, ()) ∧ U.isNone = tv (Dis n le)) n (fun j => ∀ y, y < j → ∀ z, z < n → mt n le i (mt n (du le) y z) = mt n (du le) (mt n le i y) (mt n le i z)) (by omega) ?_ ?_ 0 (by omega) (by intro x hx; omega)
    · intro rc2 j hj hv2 ih2
      unfold zz41_b5
      rw [cdt (by omega), Option.bind_some, lat1, mkR_len]
      refine zz41_q8 (Q := fun o => ∃ U, o = some (U, ()) ∧ U.isNone = tv (Dis n le)) n (fun k => ∀ z, z < k → mt n le i (mt n (du le) j z) = mt n (du le) (mt n le i j) (mt n le i z)) (by omega) ?_ ?_ 0 (by omega) (by intro x hx; omega)
      · intro rc3 k hk hv3 ih3
        unfold zz41_b8
        simp only [cdt (show (k : Int) < (n : Int) by omega), Option.bind_some, lat2, lat3, atI_mkR hi, atI_mkR hj, atI_mkR hk, atI_mkR (jlt h hj hk), atI_mkR (h.mlt hi hj), atI_mkR (h.mlt hi hk), wr1 (show k ≤ 4611686018427387904 by omega)]
        by_cases e : mt n le i (mt n (du le) j k) = mt n (du le) (mt n le i j) (mt n le i k)
        · rw [cdf (by omega)]
          exact ih3 (all_lt_succ.2 ⟨hv3, e⟩)
        · rw [cdt (by omega)]
          exact ⟨_, rfl, by rw [tv_f fun hd => e (hd i j k hi hj hk)]; rfl⟩
      · intro rc3 hv3
        unfold zz41_b8
        rw [cdf (by omega), zz41_a8, wr1 (by omega)]
        exact ih2 (all_lt_succ.2 ⟨hv2, hv3⟩)
    · intro rc2 hv2
      unfold zz41_b5
      rw [cdf (by omega), zz41_a5, wr1 (by omega)]
      exact ih (all_lt_succ.2 ⟨hv, hv2⟩)
  · intro rc hv
    unfold zz41_b2
    rw [cdf (by omega), zz41_a2]
    exact ⟨none, rfl, by rw [tv_t (P := Dis n le) fun x y z hx hy hz => hv x hx y hy z hz]; rfl⟩

theorem apart_eq {n : Nat} {le : Nat → Nat → Bool} (h : LatP n le) : ∃ l b, zz17 big (pos n le) = some ((l, b, ()), ()) ∧ (!b) = tv (Dis n le) := by
  have h10 := h.le10
  unfold zz17 zz17_s
  rw [pos_len]
  refine zz17_q3 (Q := fun o => ∃ l b, o = some ((l, b, ()), ()) ∧ (!b) = tv (Dis n le)) n (fun i => ∀ x, x < i → ∀ y, y < n → ∀ z, z < n → mt n le x (mt n (du le) y z) = mt n (du le) (mt n le x y) (mt n le x z)) (by omega) ?_ ?_ 0 (by omega) (by intro x hx; omega)
  · intro rc i hi hv ih
    unfold zz17_b3
    rw [cdt (by omega)]
    refine zz17_q6 (Q := fun o => ∃ l b, o = some ((l, b, ()), ()) ∧ (!b) = tv (Dis n le)) n (fun j => ∀ y, y < j → ∀ z, z < n → mt n le i (mt n (du le) y z) = mt n (du le) (mt n le i y) (mt n le i z)) (by omega) ?_ ?_ 0 (by omega) (by intro x hx; omega)
    · intro rc2 j hj hv2 ih2
      unfold zz17_b6
      rw [cdt (by omega)]
      refine zz17_q9 (Q := fun o => ∃ l b, o = some ((l, b, ()), ()) ∧ (!b) = tv (Dis n le)) n (fun k => ∀ z, z < k → mt n le i (mt n (du le) j z) = mt n (du le) (mt n le i j) (mt n le i z)) (by omega) ?_ ?_ 0 (by omega) (by intro x hx; omega)
      · intro rc3 k hk hv3 ih3
        unfold zz17_b9
        simp only [cdt (show (k : Int) < (n : Int) by omega), l24Join_eq h hj hk, Option.bind_some, l24Meet_eq h hi (jlt h hj hk), l24Meet_eq h hi hj, l24Meet_eq h hi hk, l24Join_eq h (h.mlt hi hj) (h.mlt hi hk), wr1 (show k ≤ 4611686018427387904 by omega)]
        by_cases e : mt n le i (mt n (du le) j k) = mt n (du le) (mt n le i j) (mt n le i k)
        · rw [cdf (by omega)]
          exact ih3 (all_lt_succ.2 ⟨hv3, e⟩)
        · rw [cdt (by omega)]
          exact ⟨_, _, rfl, by rw [tv_f fun hd => e (hd i j k hi hj hk)]; rfl⟩
      · intro rc3 hv3
        unfold zz17_b9
        rw [cdf (by omega), zz17_a9, wr1 (by omega)]
        exact ih2 (all_lt_succ.2 ⟨hv2, hv3⟩)
    · intro rc2 hv2
      unfold zz17_b6
      rw [cdf (by omega), zz17_a6, wr1 (by omega)]
      exact ih (all_lt_succ.2 ⟨hv, hv2⟩)
  · intro rc hv
    unfold zz17_b3
    rw [cdf (by omega), zz17_a3]
    exact ⟨[], false, rfl, by rw [tv_t (P := Dis n le) fun x y z hx hy hz => hv x hx y hy z hz]; rfl⟩

def rel (n : Nat) (le : Nat → Nat → Bool) (x y z : Nat) : List Nat := fl n fun c => decide (mt n le c y = x) && decide (mt n (du le) c y = z)

def comp (n : Nat) (le : Nat → Nat → Bool) (x : Nat) : List Nat := rel n le (bt n le) x (tp n le)

theorem relative_eq {n : Nat} {le : Nat → Nat → Bool} (h : LatP n le) {x y z : Nat} (hy : y < n) : zz47 (some (lat n le)) (x : Int) (y : Int) (z : Int) = some (cs (rel n le x y z), ()) := by
  have h10 := h.le10
  unfold zz47 zz47_s
  rw [Option.bind_some, lat1, those_lattice_relative_c1 (mkR_len n _) (by omega) (P := fun c => decide (mt n le c y = x) && decide (mt n (du le) c y = z))]
  · rfl
  · intro i hi
    unfold zz45 zz45_s
    simp only [Option.bind_some, lat2, lat3, atI_mkR hi, atI_mkR hy]
    by_cases e : mt n le i y = x
    · rw [cdt (by omega), decide_eq_true e, Bool.true_and]
      congr 2
      exact decide_eq_decide.2 (by omega)
    · rw [cdf (by omega), decide_eq_false e, Bool.false_and]

theorem specRel_eq {n : Nat} {le : Nat → Nat → Bool} (h : LatP n le) {x y z : Nat} (hy : y < n) : zz21 big (pos n le) (x : Int) (y : Int) (z : Int) = some (cs (rel n le x y z), ()) := by
  have h10 := h.le10
  unfold zz21 zz21_s
  refine zz21_h3 n (fun i l => l = cs (fl i fun c => decide (mt n le c y = x) && decide (mt n (du le) c y = z))) (by omega) ?_ ?_ 0 (by omega) _ rfl
  · intro rc i l hi hv ih
    have hl := fl_len i fun c => decide (mt n le c y = x) && decide (mt n (du le) c y = z)
    unfold zz21_b3
    rw [pos_len, cdt (by omega), l24Meet_eq h hy hi, Option.bind_some, l24Join_eq h hy hi, Option.bind_some, mt_comm, mt_comm (le := du le), wr1 (by omega)]
    by_cases e : mt n le i y = x
    · rw [cdt (by omega)]
      by_cases e2 : mt n (du le) i y = z
      · rw [cdt (by omega), app1 (by rw [hv, cs_len]; omega), Option.bind_some]
        exact ih _ (by rw [hv]; exact fl_t (P := fun c => decide (mt n le c y = x) && decide (mt n (du le) c y = z)) (by simp [e, e2]))
      · rw [cdf (by omega)]
        exact ih _ (by rw [hv]; exact fl_f (P := fun c => decide (mt n le c y = x) && decide (mt n (du le) c y = z)) (by simp [e2]))
    · rw [cdf (by omega)]
      exact ih _ (by rw [hv]; exact fl_f (P := fun c => decide (mt n le c y = x) && decide (mt n (du le) c y = z)) (by simp [e]))
  · intro rc l hv
    unfold zz21_b3
    rw [pos_len, cdf (by omega), zz21_a3, hv]
    rfl

theorem complements_eq {n : Nat} {le : Nat → Nat → Bool} (h : LatP n le) {x : Nat} (hx : x < n) : zz48 (some (lat n le)) (x : Int) = some (cs (comp n le x), ()) := by
  unfold zz48 zz48_s
  rw [bottom_eq h, Option.bind_some, top_eq h, Option.bind_some, relative_eq h hx]; rfl

def Cmp (n : Nat) (le : Nat → Nat → Bool) : Prop := ∀ x, x < n → comp n le x ≠ []

theorem isCompl_eq {n : Nat} {le : Nat → Nat → Bool} (h : LatP n le) : zz52 (some (lat n le)) = some (tv (Cmp n le), ()) := by
  have h10 := h.le10
  unfold zz52 zz52_s zz51 zz51_s
  rw [Option.bind_some, lat1, those_lattice_isComplemented_c1 (mkR_len n _) (by omega) (P := fun x => decide ((comp n le x).length = 0))]
  · simp only [Option.bind_some, cs_len]
    congr 2
    symm
    refine tv_eq ?_
    rw [decide_eq_true_eq]
    constructor
    · intro e x hx hc
      have : x ∈ fl n fun x => decide ((comp n le x).length = 0) := fl_mem.2 ⟨hx, by simp [hc]⟩
      have := List.length_pos_of_mem this
      omega
    · intro hc
      have : (fl n fun x => decide ((comp n le x).length = 0)) = [] := List.eq_nil_iff_forall_not_mem.2 fun x hx => by
        have := fl_mem.1 hx
        exact hc x this.1 (List.eq_nil_of_length_eq_zero (by simpa using this.2))
      rw [this]; rfl
  · intro i hi
    unfold zz49 zz49_s
    rw [complements_eq h hi, Option.bind_some, cs_len]
    congr 2
    exact decide_eq_decide.2 (by omega)

theorem counts_eq {n : Nat} {le : Nat → Nat → Bool} (h : LatP n le) : zz22 big (pos n le) = some (mkR n fun x => ((comp n le x).length : Int), ()) := by
  have h10 := h.le10
  unfold zz22 zz22_s
  refine zz22_h3 n (fun i l => l = mkR i fun x => ((comp n le x).length : Int)) (by omega) ?_ ?_ 0 (by omega) _ rfl
  · intro rc i l hi hv ih
    unfold zz22_b3
    rw [pos_len, cdt (by omega), specBottom_eq h, Option.bind_some, specTop_eq h, Option.bind_some, specRel_eq h hi, Option.bind_some, app1 (by rw [hv, mkR_len]; omega), Option.bind_some, wr1 (by omega)]
    exact ih _ (by rw [hv, cs_len]; exact (mkR_succ i fun x => ((comp n le x).length : Int)).symm)
  · intro rc l hv
    unfold zz22_b3
    rw [pos_len, cdf (by omega), zz22_a3, hv]

structure BoolP (n : Nat) (le : Nat → Nat → Bool) : Prop where
  lp : LatP n le
  dis : Dis n le
  cmp : Cmp n le

theorem specGood29 {n : Nat} {le : Nat → Nat → Bool} (h : LatP n le) (hg : zz14 big (pos n le) = some (true, ())) : zz23 (pos n le) = some (tv (Dis n le ∧ Cmp n le), ()) := by
  have h10 := h.le10
  unfold zz23 zz23_s zz18 zz18_s
  obtain ⟨l, b, h1, h2⟩ := apart_eq h
  rw [hg, Option.bind_some, h1]
  simp only [Bool.not_true, cond_false, Option.bind_some, h2]
  by_cases hd : Dis n le
  · rw [tv_t hd, cond_true, counts_eq h, Option.bind_some, l1Has_eq _ _ (by rw [mkR_len]; omega), Option.bind_some]
    congr 2
    symm
    refine tv_eq ?_
    rw [Bool.not_eq_true', decide_eq_false_iff_not, mkR_mem]
    constructor
    · intro hc
      refine ⟨hd, fun x hx he => hc ⟨x, hx, by rw [he]; rfl⟩⟩
    · rintro ⟨_, hc⟩ ⟨x, hx, e⟩
      exact hc x hx (List.eq_nil_of_length_eq_zero (by omega))
  · rw [tv_f hd, tv_f fun hh => hd hh.1]; rfl

theorem implBool {n : Nat} {le : Nat → Nat → Bool} (h : LatP n le) (hg : zz40 (pos n le) = some ((some (lat n le), true, ()), ())) : zz53 (pos n le) = some ((some (lat n le), tv (Dis n le ∧ Cmp n le), ()), ()) := by
  unfold zz53 zz53_s zz42 zz42_s
  obtain ⟨U, h1, h2⟩ := uneven_eq h
  rw [hg, Option.bind_some]
  simp only [cond_true, h1, Option.bind_some, h2]
  by_cases hd : Dis n le
  · rw [tv_t hd, cond_true, isCompl_eq h, Option.bind_some, tv_congr (show Cmp n le ↔ Dis n le ∧ Cmp n le from ⟨fun hc => ⟨hd, hc⟩, fun hh => hh.2⟩)]
  · rw [tv_f hd, tv_f fun hh => hd hh.1]; rfl

theorem bool_cases {p : PT} (hx : ∀ r ∈ p.1, r.length ≤ 4294967296) : (∃ n le, p = pos n le ∧ BoolP n le ∧ zz23 p = some (true, ()) ∧ zz53 p = some ((some (lat n le), true, ()), ())) ∨
    (zz23 p = some (false, ()) ∧ ∃ l, zz53 p = some ((l, false, ()), ())) := by
  rcases lat_cases hx with ⟨n, le, e, h, h1, h2⟩ | ⟨h1, l, h2⟩
  · subst e
    have e1 := specGood29 h h1
    have e2 := implBool h h2
    by_cases hb : Dis n le ∧ Cmp n le
    · rw [tv_t hb] at e1 e2
      exact .inl ⟨n, le, rfl, ⟨h, hb.1, hb.2⟩, e1, e2⟩
    · rw [tv_f hb] at e1 e2
      exact .inr ⟨e1, _, e2⟩
  · refine .inr ⟨?_, l, ?_⟩
    · unfold zz23 zz23_s zz18 zz18_s
      rw [h1]; rfl
    · unfold zz53 zz53_s zz42 zz42_s
      rw [h2]; rfl

def cpl (n : Nat) (le : Nat → Nat → Bool) (x : Nat) : Nat := (comp n le x).headD 0

theorem cpl_get {n : Nat} {le : Nat → Nat → Bool} (hc : Cmp n le) {x : Nat} (hx : x < n) : ∃ h : 0 < (comp n le x).length, (comp n le x)[0] = cpl n le x := by
  have h0 : 0 < (comp n le x).length := List.length_pos_iff.2 (hc x hx)
  refine ⟨h0, ?_⟩
  unfold cpl
  rw [List.getElem_zero, List.headD_eq_head?_getD, List.head?_eq_some_head (List.ne_nil_of_length_pos h0)]
  rfl

theorem cpl_spec {n : Nat} {le : Nat → Nat → Bool} (hc : Cmp n le) {x : Nat} (hx : x < n) : cpl n le x < n ∧ mt n le (cpl n le x) x = bt n le ∧ mt n (du le) (cpl n le x) x = tp n le := by
  obtain ⟨h0, e⟩ := cpl_get hc hx
  have := List.getElem_mem h0
  rw [e] at this
  have := fl_mem.1 this
  simpa using this

theorem complList_eq {n : Nat} {le : Nat → Nat → Bool} (h : BoolP n le) : zz54 big (some (lat n le)) = some (mkR n fun x => ((cpl n le x : Nat) : Int), ()) := by
  have h10 := h.lp.le10
  unfold zz54 zz54_s
  rw [Option.bind_some, lat1, mkR_len]
  refine zz54_h3 n (fun i l => l = mkR i fun x => ((cpl n le x : Nat) : Int)) (by omega) ?_ ?_ 0 (by omega) _ rfl
  · intro rc i l hi hv ih
    obtain ⟨h0, e⟩ := cpl_get h.cmp hi
    have a1 := atI_cs h0
    have a2 := get_cs h0
    rw [e] at a1 a2
    unfold zz54_b3
    rw [cdt (by omega), complements_eq h.lp hi, Option.bind_some, show (0 : Int) = ((0 : Nat) : Int) from rfl, a1, Option.bind_some, Int.toNat_natCast, a2, Option.bind_some, app1 (by rw [hv, mkR_len]; omega), Option.bind_some, wr1 (by omega)]
    exact ih _ (by rw [hv]; exact (mkR_succ i fun x => ((cpl n le x : Nat) : Int)).symm)
  · intro rc l hv
    unfold zz54_b3
    rw [cdf (by omega), zz54_a3, hv]

theorem specCompl_eq {n : Nat} {le : Nat → Nat → Bool} (h : BoolP n le) : zz24 big (pos n le) = some (mkR n fun x => ((cpl n le x : Nat) : Int), ()) := by
  have h10 := h.lp.le10
  unfold zz24 zz24_s
  refine zz24_h3 n (fun i l => l = mkR i fun x => ((cpl n le x : Nat) : Int)) (by omega) ?_ ?_ 0 (by omega) _ rfl
  · intro rc i l hi hv ih
    obtain ⟨h0, e⟩ := cpl_get h.cmp hi
    have a1 := atI_cs h0
    have a2 := get_cs h0
    rw [e] at a1 a2
    unfold zz24_b3
    rw [pos_len, cdt (by omega), specBottom_eq h.lp, Option.bind_some, specTop_eq h.lp, Option.bind_some, specRel_eq h.lp hi, Option.bind_some]
    simp only [show (0 : Int) = ((0 : Nat) : Int) from rfl]
    rw [show atI (cs (rel n le (bt n le) i (tp n le))) ((0 : Nat) : Int) = _ from a1, Option.bind_some, Int.toNat_natCast, show (cs (rel n le (bt n le) i (tp n le)))[0]? = _ from a2, Option.bind_some, app1 (by rw [hv, mkR_len]; omega), Option.bind_some, wr1 (by omega)]
    exact ih _ (by rw [hv]; exact (mkR_succ i fun x => ((cpl n le x : Nat) : Int)).symm)
  · intro rc l hv
    unfold zz24_b3
    rw [pos_len, cdf (by omega), zz24_a3, hv]

def pw (k : Nat) : Nat := 2 ^ k

theorem pw_le10 {k : Nat} (hk : k ≤ 10) : pw k ≤ 1024 := by
  have := Nat.pow_le_pow_right (n := 2) (by omega) hk
  simpa [pw] using this

theorem shl1 {k : Nat} (hk : k ≤ 10) : shlI IntKind.i64 1 (k : Int) = some (((pw k : Nat) : Int)) := by
  have hp := pw_le10 hk
  unfold shlI
  rw [if_neg (by omega), Int.toNat_natCast, show min k IntKind.i64.bits = k from Nat.min_eq_left (by show k ≤ 64; omega), Int.one_mul]
  have e : ((2 : Int) ^ k) = ((pw k : Nat) : Int) := by simp [pw]
  rw [e, wr (by omega) (by omega)]

theorem getD_get {S : List Nat} {k : Nat} (h : k < S.length) : S.getD k 0 = S[k] := by rw [List.getD_eq_getElem?_getD, List.getElem?_eq_getElem h]; rfl

def lx : List Int → List Int → Bool
  | a :: s, b :: t => if a ≠ b then decide (a < b) else lx s t
  | _, _ => false

theorem lx_drop {a b : List Int} {i : Nat} (h1 : i < a.length) (h2 : i < b.length) : lx (a.drop i) (b.drop i) = if a[i] ≠ b[i] then decide (a[i] < b[i]) else lx (a.drop (i + 1)) (b.drop (i + 1)) := by
  rw [List.drop_eq_getElem_cons h1, List.drop_eq_getElem_cons h2, lx]

theorem hasNot_eq (l : List Int) (x : Int) (h : l.length ≤ 4294967296) : zz61 big l x = some (decide (x ∉ l), ()) := by
  unfold zz61 zz61_s
  refine zz61_h2 l.length (fun i => ∀ y ∈ l.take i, x ≠ y) (by omega) ?_ ?_ 0 (by omega) (by simp)
  · intro rc i hi hv ih
    unfold zz61_b2
    rw [cdt (by omega), atI_lt l i hi, Option.bind_some, wr1 (by omega)]
    by_cases e : x = l[i]
    · rw [cdt e]
      have : x ∈ l := by rw [e]; exact List.getElem_mem hi
      simp [this]
    · rw [cdf e]
      exact ih ((all_take_succ hi (P := fun y => x ≠ y)).2 ⟨hv, e⟩)
  · intro rc hv
    rw [List.take_length] at hv
    unfold zz61_b2
    have : x ∉ l := fun hx => hv x hx rfl
    rw [cdf (by omega), zz61_a2]
    simp [this]

theorem sum_le {l : List (List Int)} {k : Nat} (h : ∀ x ∈ l, x.length ≤ k) : (l.map List.length).sum ≤ l.length * k := by
  induction l with
  | nil => simp
  | cons x l ih =>
    have h1 := ih fun y hy => h y (List.mem_cons_of_mem _ hy)
    have h2 := h x List.mem_cons_self
    rw [List.map_cons, List.sum_cons, List.length_cons, Nat.succ_mul]; omega

theorem mt_self {n : Nat} {le : Nat → Nat → Bool} (h : LatP n le) {x : Nat} (hx : x < n) : mt n le x x = x := by unfold mt; rw [bnd_self h.ord hx]; rfl

structure Pt (n : Nat) (P : Nat → Nat) : Prop where
  lo : ∀ x, x < n → P x ≤ x
  id : ∀ x, x < n → P (P x) = P x

theorem Pt.lt {n : Nat} {P : Nat → Nat} (h : Pt n P) {x : Nat} (hx : x < n) : P x < n := Nat.lt_of_le_of_lt (h.lo x hx) hx

def Lep (n : Nat) (P C : Nat → Nat) : Prop := ∀ x, x < n → C (P x) = C x

theorem Lep.refl {n : Nat} {P : Nat → Nat} (h : Pt n P) : Lep n P P := h.id

theorem Lep.trans {n : Nat} {P Q C : Nat → Nat} (h : Pt n P) (h1 : Lep n P Q) (h2 : Lep n Q C) : Lep n P C := fun x hx => by
  have e1 := h1 x hx
  have e2 := h2 (P x) (h.lt hx)
  have e3 := h2 x hx
  rw [← e2, e1, e3]

theorem shr_nat {b i : Nat} (hb : b ≤ 4611686018427387904) (hi : i ≤ 10) : shrI IntKind.i64 (b : Int) (i : Int) = some ((b / 2 ^ i : Nat) : Int) := by
  unfold shrI
  rw [if_neg (by omega), Int.toNat_natCast, show min i IntKind.i64.bits = i from Nat.min_eq_left (by have : IntKind.i64.bits = 64 := rfl; omega)]
  have e : ((2 : Int) ^ i) = ((2 ^ i : Nat) : Int) := by simp
  rw [e, Int.fdiv_eq_ediv_of_nonneg _ (Int.natCast_nonneg _), Int.natCast_ediv]

theorem and1_nat {x : Nat} (hx : x ≤ 4611686018427387904) : bitI .and IntKind.i64 (x : Int) 1 = ((x % 2 : Nat) : Int) := by
  unfold bitI
  show IntKind.i64.wrap ((BitVec.ofInt 64 (x : Int) &&& BitVec.ofInt 64 1).toNat : Int) = _
  rw [BitVec.toNat_and, BitVec.toNat_ofInt, BitVec.toNat_ofInt]
  have e1 : ((x : Int) % ((2 ^ 64 : Nat) : Int)).toNat = x := by
    rw [show ((2 ^ 64 : Nat) : Int) = 18446744073709551616 from rfl]; omega
  have e2 : ((1 : Int) % ((2 ^ 64 : Nat) : Int)).toNat = 1 := by
    rw [show ((2 ^ 64 : Nat) : Int) = 18446744073709551616 from rfl]; omega
  rw [e1, e2, Nat.and_one_is_mod, wr (by omega) (by omega)]

theorem isPart_eq2 (a b : List Int) (ha : a.length ≤ 4294967296) (hb : b.length ≤ 4294967296) : zz63 big a b = some (tv (∀ x ∈ a, x ∈ b), ()) := by
  unfold zz63 zz63_s
  refine zz63_h2 a.length (fun i => ∀ x ∈ a.take i, x ∈ b) (by omega) ?_ ?_ 0 (by omega) (by simp)
  · intro rc i hi hv ih
    unfold zz63_b2
    rw [cdt (by omega), atI_lt a i hi, Option.bind_some, hasNot_eq b _ hb, Option.bind_some, wr1 (by omega)]
    by_cases c : a[i] ∈ b
    · rw [cdf (fun h => h c)]
      exact ih ((all_take_succ hi).2 ⟨hv, c⟩)
    · rw [cdt c, tv_f fun h => c (h _ (List.getElem_mem hi))]
  · intro rc hv
    rw [List.take_length] at hv
    unfold zz63_b2
    rw [cdf (by omega), zz63_a2, tv_t hv]

theorem l5Less_eq (a b : List Int) (h : a.length = b.length) (h2 : a.length ≤ 4294967296) : zz27 big a b = some (lx a b, ()) := by
  unfold zz27 zz27_s
  refine zz27_h2 a.length (fun i => lx a b = lx (a.drop i) (b.drop i)) (by omega) ?_ ?_ 0 (by omega) rfl
  · intro rc i hi hv ih
    have hib : i < b.length := by omega
    unfold zz27_b2
    simp only [cdt (show (i : Int) < (a.length : Int) by omega), atI_lt a i hi, atI_lt b i hib, Option.bind_some, wr1 (show i ≤ 4611686018427387904 by omega)]
    rw [lx_drop hi hib] at hv
    by_cases e : a[i] = b[i]
    · rw [cdf (by simp [e])]
      rw [if_neg (by simp [e])] at hv
      exact ih hv
    · rw [cdt e, hv, if_pos e]
  · intro rc hv
    rw [List.drop_length] at hv
    unfold zz27_b2
    rw [cdf (by omega), zz27_a2, hv]; rfl

inductive Wd where
  | v (n : Int)
  | op (g : Int) (a b : Wd)

def Wd.fl : Wd → List Int
  | .v n => [n]
  | .op g a b => g :: (a.fl ++ b.fl)

def Wd.hd : Wd → Int
  | .v n => n
  | .op g _ _ => g

def Wd.ok : Wd → Prop
  | .v n => 0 ≤ n ∧ n < 5
  | .op g a b => (g = -1 ∨ g = -2) ∧ a.ok ∧ b.ok

theorem Wd.pos : ∀ A : Wd, 0 < A.fl.length
  | .v n => by simp [Wd.fl]
  | .op g a b => by simp [Wd.fl]

def At (s : List Int) (i : Nat) (A : Wd) : Prop := A.ok ∧ ∃ r, s.drop i = A.fl ++ r

theorem At.lt {s : List Int} {i : Nat} {A : Wd} (h : At s i A) : i + A.fl.length ≤ s.length := by
  obtain ⟨_, r, e⟩ := h
  have := congrArg List.length e
  have := A.pos
  simp only [List.length_drop, List.length_append] at *
  omega

theorem At.head {s : List Int} {i : Nat} {A : Wd} (h : At s i A) : atI s (i : Int) = some A.hd := by
  have hl := h.lt
  have hp := A.pos
  obtain ⟨_, r, e⟩ := h
  rw [atI_nat]
  have : s[i]? = (s.drop i)[0]? := by rw [List.getElem?_drop]; rfl
  rw [this, e]
  cases A <;> simp [Wd.fl, Wd.hd]

theorem lx_cmp : ∀ {a b : List Int}, a.length = b.length → lx a b = decide (cmpL a b < 0)
  | [], [], _ => by simp [lx, cmpL]
  | [], _ :: _, h => by simp at h
  | _ :: _, [], h => by simp at h
  | x :: a, y :: b, h => by
    have ih := lx_cmp (a := a) (b := b) (by simpa using h)
    unfold lx cmpL
    by_cases e : x = y
    · rw [if_neg (by simp [e]), if_pos e]; exact ih
    · rw [if_pos e, if_neg e]
      by_cases l : x < y
      · rw [if_pos l]; simp [l]
      · rw [if_neg l]; simp [l]

theorem lt_len1 {a b : List Int} (h : a.length < b.length) : ltOf cmpT a b = true := by simp [ltOf, cmpT, h]

theorem lt_len2 {a b : List Int} (h : b.length < a.length) : ltOf cmpT a b = false := by
  unfold ltOf cmpT
  rw [if_neg (by omega), if_pos h]; decide

theorem lt_lenE {a b : List Int} (h : a.length = b.length) : ltOf cmpT a b = lx a b := by
  rw [lx_cmp h]
  unfold ltOf cmpT
  rw [if_neg (by omega), if_neg (by omega)]

theorem sort5_fin {ls : List (List Int)} {l : List Int} (hs : SortedL cmpT ls) {m : Nat} (hm : m ≤ ls.length) (h1 : ∀ (j : Nat) (hj : j < ls.length), m ≤ j → ltOf cmpT l ls[j] = true) (h2 : ∀ (hk : 0 < m) , ltOf cmpT l (ls[m - 1]'(by omega)) = false) :
    ls.take m ++ [l] ++ ls.drop m = insBy cmpT l ls := by
  refine sorted_unique cmpT_ok ?_ ?_ (insBy_sorted cmpT_ok l ls hs)
  · refine List.Perm.trans ?_ (insBy_perm l ls).symm
    rw [List.append_assoc, List.singleton_append]
    refine List.perm_middle.trans ?_
    rw [List.take_append_drop]
  · have hs' : SortedL cmpT (ls.take m ++ ls.drop m) := by rw [List.take_append_drop]; exact hs
    obtain ⟨s1, s2, s3⟩ := List.pairwise_append.1 hs'
    have e1 : ∀ x ∈ ls.take m, ltOf cmpT l x = false := fun x hx => by
      obtain ⟨j, hj, rfl⟩ := List.mem_iff_getElem.1 hx
      rw [List.length_take] at hj
      have hm0 : 0 < m := by omega
      rw [List.getElem_take]
      by_cases q : j = m - 1
      · subst q; exact h2 hm0
      · exact lt_ntr cmpT_ok _ _ _ (h2 hm0) ((List.pairwise_iff_getElem.1 hs) j (m - 1) (by omega) (by omega) (by omega))
    have e2 : ∀ x ∈ ls.drop m, ltOf cmpT x l = false := fun x hx => by
      obtain ⟨j, hj, rfl⟩ := List.mem_iff_getElem.1 hx
      rw [List.length_drop] at hj
      rw [List.getElem_drop]
      have := h1 (m + j) (by omega) (by omega)
      cases q : ltOf cmpT ls[m + j] l with
      | false => rfl
      | true => have := lt_tr cmpT_ok _ _ _ this q; rw [lt_irr cmpT_ok] at this; cases this
    unfold SortedL
    rw [List.append_assoc, List.singleton_append, List.pairwise_append]
    refine ⟨s1, List.pairwise_cons.2 ⟨e2, s2⟩, fun x hx y hy => ?_⟩
    rcases List.mem_cons.1 hy with rfl | hy
    · exact e1 x hx
    · exact s3 x hx y hy

theorem sort5_eq (ls : List (List Int)) (l : List Int) (hll : l.length ≤ 4294967296) (h : ls.length ≤ 4294967290) (hs : SortedL cmpT ls) : zz28 big ls l = some (insBy cmpT l ls, ()) := by
  have fin : ∀ k : Nat, k ≤ ls.length → (∀ (j : Nat) (hj : j < ls.length), k ≤ j → ltOf cmpT l ls[j] = true) → (∀ (hk : 0 < k) (hq : k - 1 < ls.length), ltOf cmpT l ls[k - 1] = false) → zz28_a2 ls l (k : Int) = some (insBy cmpT l ls, ()) := by
    intro k hk h1 h2
    have e1 : slI ls 0 (k : Int) = some (ls.take k) := by have := slI_nat ls 0 k (by omega) hk; simpa using this
    have e2 : slI ls (k : Int) (ls.length : Int) = some (ls.drop k) := by
      have := slI_nat ls k ls.length hk (Nat.le_refl _)
      rw [this, List.take_of_length_le (by rw [List.length_drop]; omega)]
    have hl : (ls.take k).length ≤ ls.length := by rw [List.length_take]; omega
    unfold zz28_a2
    rw [e1, Option.bind_some]
    have a1 : appI ([] : List (List Int)) (ls.take k) = some (ls.take k) := by
      unfold appI; rw [if_pos (by simp; omega)]; rfl
    rw [a1, Option.bind_some, app1 (by omega), Option.bind_some, e2, Option.bind_some]
    have a2 : appI (ls.take k ++ [l]) (ls.drop k) = some (ls.take k ++ [l] ++ ls.drop k) := by
      unfold appI
      rw [if_pos (by rw [List.length_append, List.length_drop, List.length_take]; simp; omega)]
    rw [a2, Option.bind_some, sort5_fin hs hk h1 fun q => h2 q (by omega)]
  unfold zz28 zz28_s
  refine zz28_v2 (Q := fun r => r = some (insBy cmpT l ls, ())) (fun k => k.toNat) (fun k => ∃ m : Nat, k = (m : Int) ∧ m ≤ ls.length ∧ ∀ (j : Nat) (hj : j < ls.length), m ≤ j → ltOf cmpT l ls[j] = true) ?_ _ (by omega) ⟨ls.length, rfl, Nat.le_refl _, fun j hj hm => absurd hm (by omega)⟩
  rintro rc k ⟨m, rfl, hm, hgt⟩ ih
  unfold zz28_b2
  by_cases c : m = 0
  · subst c
    rw [cdf (by omega)]
    exact fin 0 (by omega) hgt fun q => absurd q (by omega)
  · have e : IntKind.i64.wrap ((m : Int) - 1) = ((m - 1 : Nat) : Int) := by rw [wr (by omega) (by omega)]; omega
    have hat : atI ls ((m - 1 : Nat) : Int) = some ls[m - 1] := atI_lt ls (m - 1) (by omega)
    have go : ltOf cmpT l ls[m - 1] = true → rc ls l ((m - 1 : Nat) : Int) = some (insBy cmpT l ls, ()) := fun q => ih ((m - 1 : Nat) : Int) ⟨m - 1, rfl, by omega, fun j hj hq => by
      by_cases z : j = m - 1
      · subst z; exact q
      · exact hgt j hj (by omega)⟩ (by omega)
    have stop : ltOf cmpT l ls[m - 1] = false → zz28_a2 ls l (m : Int) = some (insBy cmpT l ls, ()) := fun q => fin m hm hgt fun _ _ => q
    rw [cdt (by omega), e, hat, Option.bind_some]
    by_cases c1 : (l.length : Int) < (ls[m - 1].length : Int)
    · rw [cdt c1]; exact go (lt_len1 (by omega))
    · rw [cdf c1, Option.bind_some]
      by_cases c2 : (l.length : Int) = (ls[m - 1].length : Int)
      · have hle : zz27 big l ls[m - 1] = some (lx l ls[m - 1], ()) := l5Less_eq l ls[m - 1] (by omega) hll
        rw [cdt c2, Option.bind_some, hle, Option.bind_some]
        have hq := lt_lenE (a := l) (b := ls[m - 1]) (by omega)
        cases hx : lx l ls[m - 1] with
        | true => exact go (hq.trans hx)
        | false => exact stop (hq.trans hx)
      · rw [cdf c2]; exact stop (lt_len2 (by omega))

theorem sortBy_snoc (c : List Int → List Int → Int) (l : List (List Int)) (x : List Int) : sortBy c (l ++ [x]) = insBy c x (sortBy c l) := by unfold sortBy; rw [List.foldl_append]; rfl

theorem sortBy_len {c : List Int → List Int → Int} (h : CmpOk c) (l : List (List Int)) : (sortBy c l).length = l.length := (sortBy_perm h l).length_eq

theorem sortBy_mem {c : List Int → List Int → Int} (h : CmpOk c) {l : List (List Int)} {x : List Int} : x ∈ sortBy c l ↔ x ∈ l := (sortBy_perm h l).mem_iff

theorem sortRows_eq (c : List Int → List Int → Int) (l : List (List Int)) (h : l.length ≤ 4294967296) : sortRowsV c l = some ((), (sortBy c l, ())) := by unfold sortRowsV; rw [if_pos h]

def bitp (c i : Nat) : Bool := decide (c / 2 ^ i % 2 = 1)

theorem fl_cut {P : Nat → Bool} {a : Nat} : ∀ {b : Nat}, a ≤ b → (∀ i, a ≤ i → i < b → P i = false) → fl b P = fl a P
  | 0, h, _ => by rw [show a = 0 by omega]
  | b + 1, h, hp => by
    by_cases e : a = b + 1
    · rw [e]
    · rw [fl_succ, if_neg (by rw [hp b (by omega) (by omega)]; simp)]
      exact fl_cut (by omega) fun i h1 h2 => hp i h1 (by omega)

def nbits (c : Nat) : Nat := if c = 0 then 0 else c.log2 + 1

theorem nbits_le {c k : Nat} (hc : c < 2 ^ k) : nbits c ≤ k := by
  unfold nbits
  split
  · omega
  · rename_i h
    have := (Nat.log2_lt h).2 hc
    omega

theorem nbits_pos {c i : Nat} : i < nbits c ↔ 0 < c / 2 ^ i := by
  unfold nbits
  split
  · rename_i h; subst h; simp
  · rename_i h
    rw [Nat.lt_succ_iff, Nat.le_log2 h]
    constructor
    · exact fun q => Nat.div_pos q (Nat.pow_pos (by omega))
    · intro q
      refine Nat.not_lt.1 fun z => ?_
      rw [Nat.div_eq_of_lt z] at q
      omega

theorem bitsOf_eq {c k : Nat} (hk : k ≤ 10) (hc : c < 2 ^ k) : zz55 big (c : Int) = some (cs (fl k (bitp c)), ()) := by
  have hp : 2 ^ k ≤ 1024 := by have := Nat.pow_le_pow_right (n := 2) (by omega) hk; omega
  have hn := nbits_le hc
  have hcut : fl k (bitp c) = fl (nbits c) (bitp c) := fl_cut hn fun i h1 _ => by
    have : ¬ 0 < c / 2 ^ i := fun q => by have := nbits_pos.2 q; omega
    unfold bitp; rw [decide_eq_false]; generalize c / 2 ^ i = z at *; omega
  rw [hcut]
  unfold zz55 zz55_s
  refine zz55_h3 (nbits c) (fun i l => l = cs (fl i (bitp c))) (by omega) ?_ ?_ 0 (by omega) _ rfl
  · rintro rc i l hi rfl ih
    have hl := fl_len i (bitp c)
    have hd := nbits_pos.1 hi
    have hle := Nat.div_le_self c (2 ^ i)
    unfold zz55_b3
    rw [shr_nat (by omega) (by omega), Option.bind_some, cdt (by generalize c / 2 ^ i = z at *; omega), Option.bind_some, and1_nat (by omega), wr1 (by omega)]
    by_cases e : c / 2 ^ i % 2 = 1
    · rw [cdt (show ((c / 2 ^ i % 2 : Nat) : Int) = 1 by rw [e]; rfl), app1 (by rw [cs_len]; omega), Option.bind_some]
      exact ih _ (by rw [fl_t (P := bitp c) (decide_eq_true e)])
    · rw [cdf (show ¬ ((c / 2 ^ i % 2 : Nat) : Int) = 1 from fun q => e (by generalize c / 2 ^ i % 2 = z at *; omega))]
      exact ih _ (by rw [fl_f (P := bitp c) (decide_eq_false e)])
  · rintro rc l rfl
    have hd : ¬ 0 < c / 2 ^ nbits c := fun q => by have := nbits_pos.2 q; omega
    unfold zz55_b3
    rw [shr_nat (by omega) (by omega), Option.bind_some, cdf (by generalize c / 2 ^ nbits c = z at *; omega), zz55_a3]

theorem compose_eq {S L : List Nat} (h : ∀ s ∈ S, s < L.length) (hS : S.length ≤ 1048576) : zz62 big (cs S) (cs L) = some (cs (S.map fun s => L.getD s 0), ()) := by
  unfold zz62 zz62_s
  rw [cs_len, mkI_mkR (by omega), Option.bind_some, Option.bind_some, cdt (by omega)]
  refine zz62_h3 S.length (fun i l => l = mkR S.length fun j => if j < i then ((L.getD (S.getD j 0) 0 : Nat) : Int) else 0) (by omega) ?_ ?_ 0 (by omega) _ (mkR_congr fun x _ => by rw [if_neg (by omega)])
  · rintro rc i l hi rfl ih
    have hs := h _ (List.getElem_mem hi)
    unfold zz62_b3
    rw [cdt (by omega), atI_cs hi, Option.bind_some, atI_cs hs, Option.bind_some, atI_mkR hi, Option.bind_some, Int.toNat_natCast, get_mkR hi, Option.bind_some, wr1 (by omega)]
    refine ih _ ?_
    rw [mkR_set]
    refine mkR_congr fun x hx => ?_
    by_cases c : x = i
    · subst c
      rw [if_pos rfl, if_pos (by omega), getD_get hi, getD_get hs]
    · rw [if_neg c]
      by_cases d : x < i
      · rw [if_pos d, if_pos (by omega)]
      · rw [if_neg d, if_neg (by omega)]
  · rintro rc l rfl
    unfold zz62_b3
    rw [cdf (by omega), zz62_a3]
    congr 2
    refine (eq_mkR (by rw [cs_len, List.length_map]) fun i hi => ?_).symm
    have hi' : i < S.length := by rw [cs_len, List.length_map] at hi; exact hi
    rw [if_pos hi', getD_get hi']
    simp [cs]

theorem marked_eq {n : Nat} (H : Nat → Bool) (hn : n ≤ 1048576) : zz58 big (mkR n H) = some (cs (fl n H), ()) := by
  unfold zz58 zz58_s
  rw [mkR_len]
  refine zz58_h3 n (fun i l => l = cs (fl i H)) (by omega) ?_ ?_ 0 (by omega) _ rfl
  · rintro rc i l hi rfl ih
    have hl := fl_len i H
    unfold zz58_b3
    rw [cdt (by omega), atI_mkR hi, Option.bind_some, wr1 (by omega)]
    cases hH : H i with
    | true => rw [cond_true, app1 (by rw [cs_len]; omega), Option.bind_some]; exact ih _ (fl_t hH)
    | false => exact ih _ (fl_f hH)
  · rintro rc l rfl
    unfold zz58_b3
    rw [cdf (by omega), zz58_a3]

theorem marks_eq {n : Nat} {S : List Nat} (hS : ∀ s ∈ S, s < n) (hn : n ≤ 1048576) (hl : S.length ≤ 1048576) : zz57 big (cs S) (n : Int) = some (mkR n fun z => decide (z ∈ S), ()) := by
  unfold zz57 zz57_s
  rw [mkI_mkR (by omega), Option.bind_some, Option.bind_some, cdt (by omega), cs_len]
  refine zz57_h3 S.length (fun i l => l = mkR n fun z => decide (z ∈ S.take i)) (by omega) ?_ ?_ 0 (by omega) _ (mkR_congr fun x _ => by simp)
  · rintro rc i l hi rfl ih
    have hs := hS _ (List.getElem_mem hi)
    unfold zz57_b3
    rw [cdt (by omega), atI_cs hi, Option.bind_some, atI_mkR hs, Option.bind_some, Int.toNat_natCast, get_mkR hs, Option.bind_some, wr1 (by omega)]
    refine ih _ ?_
    rw [mkR_set]
    refine mkR_congr fun x hx => ?_
    by_cases c : x = S[i]
    · rw [if_pos c, decide_eq_true]
      exact (mem_take_succ hi).2 (.inr c)
    · rw [if_neg c]
      refine decide_eq_decide.2 ((mem_take_succ hi).trans ⟨fun q => q.resolve_right c, .inl⟩).symm
  · rintro rc l rfl
    unfold zz57_b3
    rw [cdf (by omega), zz57_a3, List.take_length]

def ClP (n : Nat) (le : Nat → Nat → Bool) (K : Nat → Bool) : Prop := ∀ x y, x < n → y < n → K x = true → K y = true → K (mt n le x y) = true ∧ K (mt n (du le) x y) = true

noncomputable def lcl (n : Nat) (le : Nat → Nat → Bool) (H : Nat → Bool) (z : Nat) : Bool := tv (∀ K : Nat → Bool, ClP n le K → (∀ x, x < n → H x = true → K x = true) → K z = true)

noncomputable def hv (n : Nat) (H : Nat → Bool) (E : Nat → Prop) : List Bool := mkR n fun z => H z || tv (E z)

noncomputable def cv (n : Nat) (H : Nat → Bool) (E : Nat → Prop) : Bool := tv (∃ z, z < n ∧ E z ∧ H z = false)

theorem hv_congr {n : Nat} {H : Nat → Bool} {E E' : Nat → Prop} (h : ∀ z, E z ↔ E' z) : hv n H E = hv n H E' := by rw [show E = E' from funext fun z => propext (h z)]

theorem cv_congr {n : Nat} {H : Nat → Bool} {E E' : Nat → Prop} (h : ∀ z, E z ↔ E' z) : cv n H E = cv n H E' := by rw [show E = E' from funext fun z => propext (h z)]

theorem hv_set {n : Nat} {H : Nat → Bool} {E : Nat → Prop} {z : Nat} : (hv n H E).set z true = hv n H fun x => E x ∨ x = z := by
  unfold hv
  rw [mkR_set]
  refine mkR_congr fun x _ => ?_
  by_cases c : x = z
  · rw [if_pos c, tv_t (.inr c), Bool.or_true]
  · rw [if_neg c]
    congr 1
    exact tv_congr ⟨.inl, fun q => q.resolve_right c⟩

theorem cv_snoc {n : Nat} {H : Nat → Bool} {E : Nat → Prop} {z : Nat} (hz : z < n) : cv n H (fun x => E x ∨ x = z) = (cv n H E || !(H z || tv (E z))) := by
  unfold cv
  by_cases c : ∃ z, z < n ∧ E z ∧ H z = false
  · rw [tv_t c, Bool.true_or]
    obtain ⟨x, h1, h2, h3⟩ := c
    exact tv_t ⟨x, h1, .inl h2, h3⟩
  · rw [tv_f c, Bool.false_or]
    cases hH : H z with
    | true =>
      rw [Bool.true_or, Bool.not_true, tv_f]
      rintro ⟨x, h1, h2 | h2, h3⟩
      · exact c ⟨x, h1, h2, h3⟩
      · rw [h2, hH] at h3; cases h3
    | false =>
      by_cases e : E z
      · exact absurd ⟨z, hz, e, hH⟩ c
      · rw [tv_f e]
        exact tv_t ⟨z, hz, .inr rfl, hH⟩

theorem generated_eq {n : Nat} {le : Nat → Nat → Bool} (h : LatP n le) {S : List Nat} (hS : ∀ s ∈ S, s < n) (hl : S.length ≤ 1048576) : zz59 big (some (lat n le)) (cs S) = some (cs (fl n (lcl n le fun z => decide (z ∈ S))), ()) := by
  have h10 := h.le10
  unfold zz59 zz59_s
  rw [Option.bind_some, lat1, mkR_len, marks_eq hS (by omega) hl, Option.bind_some]
  have fin : ∀ H : Nat → Bool, (∀ z, z < n → z ∈ S → H z = true) → (∀ z, z < n → H z = true → lcl n le (fun z => decide (z ∈ S)) z = true) → ClP n le H → zz59_a3 (mkR n H) = some (cs (fl n (lcl n le fun z => decide (z ∈ S))), ()) := fun H a b c => by
    unfold zz59_a3
    rw [marked_eq H (by omega), Option.bind_some, fl_congr (P := H) (Q := lcl n le fun z => decide (z ∈ S)) fun x hx => ?_]
    cases hH : H x with
    | true => exact (b x hx hH).symm
    | false =>
      symm
      refine tv_f fun q => ?_
      have := q H c fun y hy hd => a y hy (of_decide_eq_true hd)
      rw [hH] at this; cases this
  refine zz59_w3 (fun hv c => 2 * (hv.filter (! ·)).length + (if c then 1 else 0)) (fun hv c => ∃ H : Nat → Bool, hv = mkR n H ∧ (∀ z, z < n → z ∈ S → H z = true) ∧ (∀ z, z < n → H z = true → lcl n le (fun z => decide (z ∈ S)) z = true) ∧ (c = false → ClP n le H)) ?_ _ _ ?_
    ⟨_, rfl, fun z _ hz => decide_eq_true hz, fun z hz hd => tv_t fun K _ hK => hK z hz hd, fun q => by cases q⟩
  rotate_left
  · have : ((mkR n fun z => decide (z ∈ S)).filter (! ·)).length ≤ n := Nat.le_trans (List.length_filter_le _ _) (by rw [mkR_len]; exact Nat.le_refl _)
    simp only [if_true]; omega
  rintro rc _ c ⟨H, rfl, hS1, hS2, hC⟩ ih
  unfold zz59_b3
  cases c with
  | false => exact fin H hS1 hS2 (hC rfl)
  | true =>
    have hL : ∀ {i}, (hi : i < (fl n H).length) → (fl n H)[i] < n ∧ H (fl n H)[i] = true := fun hi => fl_mem.1 (List.getElem_mem hi)
    have hLl : (fl n H).length ≤ n := fl_len _ _
    rw [cond_true, marked_eq H (by omega), Option.bind_some, cs_len]
    let E13 := fun (i j t : Nat) (z : Nat) => (∃ a b, a < (fl n H).length ∧ b < (fl n H).length ∧ (a < i ∨ a = i ∧ b < j) ∧ (z = mt n le ((fl n H).getD a 0) ((fl n H).getD b 0) ∨ z = mt n (du le) ((fl n H).getD a 0) ((fl n H).getD b 0))) ∨
      (0 < t ∧ z = mt n le ((fl n H).getD i 0) ((fl n H).getD j 0)) ∨ (1 < t ∧ z = mt n (du le) ((fl n H).getD i 0) ((fl n H).getD j 0))
    have hE : ∀ i j t, E13 i j t = fun z => (∃ a b, a < (fl n H).length ∧ b < (fl n H).length ∧ (a < i ∨ a = i ∧ b < j) ∧ (z = mt n le ((fl n H).getD a 0) ((fl n H).getD b 0) ∨ z = mt n (du le) ((fl n H).getD a 0) ((fl n H).getD b 0))) ∨
      (0 < t ∧ z = mt n le ((fl n H).getD i 0) ((fl n H).getD j 0)) ∨ (1 < t ∧ z = mt n (du le) ((fl n H).getD i 0) ((fl n H).getD j 0)) := fun _ _ _ => rfl
    have s13 : ∀ i j, i < (fl n H).length → j < (fl n H).length → ∀ z, E13 i j 2 z ↔ E13 i (j + 1) 0 z := fun i j hi hj z => by
      simp only [hE]
      constructor
      · rintro (⟨a, b, h1, h2, h3, h4⟩ | ⟨_, h4⟩ | ⟨_, h4⟩)
        · exact .inl ⟨a, b, h1, h2, by omega, h4⟩
        · exact .inl ⟨i, j, hi, hj, by omega, .inl h4⟩
        · exact .inl ⟨i, j, hi, hj, by omega, .inr h4⟩
      · rintro (⟨a, b, h1, h2, h3, h4⟩ | ⟨q, _⟩ | ⟨q, _⟩)
        · by_cases e : a = i ∧ b = j
          · obtain ⟨rfl, rfl⟩ := e
            rcases h4 with h4 | h4
            · exact .inr (.inl ⟨by omega, h4⟩)
            · exact .inr (.inr ⟨by omega, h4⟩)
          · exact .inl ⟨a, b, h1, h2, by omega, h4⟩
        · omega
        · omega
    have s10 : ∀ i, i < (fl n H).length → ∀ z, E13 i (fl n H).length 0 z ↔ E13 (i + 1) 0 0 z := fun i hi z => by
      simp only [hE]
      constructor
      · rintro (⟨a, b, h1, h2, h3, h4⟩ | ⟨q, _⟩ | ⟨q, _⟩)
        · exact .inl ⟨a, b, h1, h2, by omega, h4⟩
        · omega
        · omega
      · rintro (⟨a, b, h1, h2, h3, h4⟩ | ⟨q, _⟩ | ⟨q, _⟩)
        · exact .inl ⟨a, b, h1, h2, by omega, h4⟩
        · omega
        · omega
    clear_value E13
    refine zz59_h7 (fl n H).length (fun i l c => l = hv n H (E13 i 0 0) ∧ c = cv n H (E13 i 0 0)) (by omega) ?_ ?_ 0 (by omega) _ _ ⟨mkR_congr fun z _ => ?_, ?_⟩
    rotate_left 2
    · rw [tv_f, Bool.or_false]
      rw [hE]
      rintro (⟨a, b, h1, h2, h3, h4⟩ | ⟨q, _⟩ | ⟨q, _⟩) <;> omega
    · symm
      refine tv_f ?_
      rw [hE]
      rintro ⟨z, _, (⟨a, b, h1, h2, h3, h4⟩ | ⟨q, _⟩ | ⟨q, _⟩), _⟩ <;> omega
    · rintro rc2 i l c hi ⟨rfl, rfl⟩ ih2
      have hLi := hL hi
      unfold zz59_b7
      rw [cdt (by omega), atI_cs hi, Option.bind_some, Int.toNat_natCast, get_cs hi, Option.bind_some, cs_len]
      refine zz59_h10 (fl n H).length (fun j l c => l = hv n H (E13 i j 0) ∧ c = cv n H (E13 i j 0)) (by omega) ?_ ?_ 0 (by omega) _ _ ⟨rfl, rfl⟩
      · rintro rc3 j l c hj ⟨rfl, rfl⟩ ih3
        have hLj := hL hj
        have hm := h.mlt hLi.1 hLj.1
        have hjn := jlt h hLi.1 hLj.1
        unfold zz59_b10
        rw [cdt (by omega), atI_cs hj, Option.bind_some, Int.toNat_natCast, get_cs hj, Option.bind_some, Option.bind_some, lat2, atI_mkR hLi.1, Option.bind_some, atI_mkR hLj.1, Option.bind_some, Option.bind_some, lat3, atI_mkR hLi.1, Option.bind_some, atI_mkR hLj.1, Option.bind_some]
        refine zz59_h13 2 (fun t l c => l = hv n H (E13 i j t) ∧ c = cv n H (E13 i j t)) (by omega) ?_ ?_ 0 (by omega) _ _ ⟨rfl, rfl⟩
        · rintro rc4 t l c ht ⟨rfl, rfl⟩ ih4
          have step : ∀ z, z < n → (∀ x, (E13 i j t x ∨ x = z) ↔ E13 i j (t + 1) x) → atI [((mt n le (fl n H)[i] (fl n H)[j] : Nat) : Int), ((mt n (du le) (fl n H)[i] (fl n H)[j] : Nat) : Int)] (t : Int) = some (z : Int) → [((mt n le (fl n H)[i] (fl n H)[j] : Nat) : Int), ((mt n (du le) (fl n H)[i] (fl n H)[j] : Nat) : Int)][t]? = some (z : Int) →
              zz59_b13 rc4 (zz59_a13 rc3) (some (lat n le)) (hv n H (E13 i j t)) (cv n H (E13 i j t)) (cs (fl n H)) ((fl n H)[i] : Int) ((fl n H).length : Int) (i : Int) ((fl n H).length : Int) (j : Int) [((mt n le (fl n H)[i] (fl n H)[j] : Nat) : Int), ((mt n (du le) (fl n H)[i] (fl n H)[j] : Nat) : Int)] 2 (t : Int) = some (cs (fl n (lcl n le fun z => decide (z ∈ S))), ()) := by
            intro z hz he e1 e2
            have g1 : atI (hv n H (E13 i j t)) (z : Int) = some (H z || tv (E13 i j t z)) := atI_mkR hz
            have g2 : (hv n H (E13 i j t))[z]? = some (H z || tv (E13 i j t z)) := get_mkR hz
            have k1 : (hv n H (E13 i j t)).set z true = hv n H (E13 i j (t + 1)) := by rw [hv_set]; exact hv_congr he
            have k2 : cv n H (E13 i j (t + 1)) = (cv n H (E13 i j t) || !(H z || tv (E13 i j t z))) := by rw [← cv_snoc hz]; exact (cv_congr he).symm
            unfold zz59_b13
            rw [cdt (by omega), e1, Option.bind_some, Int.toNat_natCast, e2, Option.bind_some, Int.toNat_natCast, g1, g2, k1, wr1 (by omega)]
            simp only [Option.bind_some]
            cases hc : cv n H (E13 i j t) with
            | true => rw [cond_true]; exact ih4 _ _ ⟨rfl, by rw [k2, hc]; rfl⟩
            | false => rw [cond_false]; exact ih4 _ _ ⟨rfl, by rw [k2, hc]; rfl⟩
          have hti : t = 0 ∨ t = 1 := by omega
          rcases hti with rfl | rfl
          · refine step _ hm (fun x => ?_) rfl rfl
            simp only [hE, getD_get hi, getD_get hj]
            constructor
            · rintro ((q | ⟨q, _⟩ | ⟨q, _⟩) | q)
              · exact .inl q
              · omega
              · omega
              · exact .inr (.inl ⟨by omega, q⟩)
            · rintro (q | ⟨_, q⟩ | ⟨q, _⟩)
              · exact .inl (.inl q)
              · exact .inr q
              · omega
          · refine step _ hjn (fun x => ?_) rfl rfl
            simp only [hE, getD_get hi, getD_get hj]
            constructor
            · rintro ((q | ⟨_, q⟩ | ⟨q, _⟩) | q)
              · exact .inl q
              · exact .inr (.inl ⟨by omega, q⟩)
              · omega
              · exact .inr (.inr ⟨by omega, q⟩)
            · rintro (q | ⟨_, q⟩ | ⟨_, q⟩)
              · exact .inl (.inl q)
              · exact .inl (.inr (.inl ⟨by omega, q⟩))
              · exact .inr q
        · rintro rc4 l c ⟨rfl, rfl⟩
          unfold zz59_b13
          rw [cdf (by simp), zz59_a13, wr1 (by omega)]
          exact ih3 _ _ ⟨hv_congr (s13 i j hi hj), cv_congr (s13 i j hi hj)⟩
      · rintro rc3 l c ⟨rfl, rfl⟩
        unfold zz59_b10
        rw [cdf (by omega), zz59_a10, wr1 (by omega)]
        exact ih2 _ _ ⟨hv_congr (s10 i hi), cv_congr (s10 i hi)⟩
    · rintro rc2 l c ⟨rfl, rfl⟩
      unfold zz59_b7
      rw [cdf (by omega), zz59_a7]
      have hEz : ∀ z, E13 (fl n H).length 0 0 z ↔ ∃ x y, x < n ∧ y < n ∧ H x = true ∧ H y = true ∧ (z = mt n le x y ∨ z = mt n (du le) x y) := fun z => by
        rw [hE]
        constructor
        · rintro (⟨a, b, h1, h2, h3, h4⟩ | ⟨q, _⟩ | ⟨q, _⟩)
          · rw [getD_get h1, getD_get h2] at h4
            exact ⟨_, _, (hL h1).1, (hL h2).1, (hL h1).2, (hL h2).2, h4⟩
          · omega
          · omega
        · rintro ⟨x, y, h1, h2, h3, h4, h5⟩
          obtain ⟨a, ha, rfl⟩ := List.getElem_of_mem (fl_mem.2 ⟨h1, h3⟩)
          obtain ⟨b, hb, rfl⟩ := List.getElem_of_mem (fl_mem.2 ⟨h2, h4⟩)
          exact .inl ⟨a, b, ha, hb, .inl ha, by rw [getD_get ha, getD_get hb]; exact h5⟩
      refine ih _ _ ⟨fun z => H z || tv (E13 (fl n H).length 0 0 z), rfl, fun z hz hs => by show (H z || tv (E13 (fl n H).length 0 0 z)) = true; rw [hS1 z hz hs]; rfl, fun z hz hd => ?_, fun q => ?_⟩ ?_
      · cases hH : H z with
        | true => exact hS2 z hz hH
        | false =>
          have hd : (H z || tv (E13 (fl n H).length 0 0 z)) = true := hd
          rw [hH, Bool.false_or] at hd
          obtain ⟨x, y, h1, h2, h3, h4, h5⟩ := (hEz z).1 (tv_iff.1 hd)
          refine tv_t fun K hK hKS => ?_
          have a1 := tv_iff.1 (hS2 x h1 h3) K hK hKS
          have a2 := tv_iff.1 (hS2 y h2 h4) K hK hKS
          rcases h5 with rfl | rfl
          · exact (hK x y h1 h2 a1 a2).1
          · exact (hK x y h1 h2 a1 a2).2
      · have hno : ∀ z, z < n → E13 (fl n H).length 0 0 z → H z = true := fun z hz he => by
          cases hH : H z with
          | true => rfl
          | false =>
            have : cv n H (E13 (fl n H).length 0 0) = true := tv_t ⟨z, hz, he, hH⟩
            rw [q] at this; cases this
        have hback : ∀ z, z < n → (H z || tv (E13 (fl n H).length 0 0 z)) = true → H z = true := fun z hz hd => by
          cases hH : H z with
          | true => rfl
          | false => rw [hH, Bool.false_or] at hd; rw [hno z hz (tv_iff.1 hd)] at hH; cases hH
        intro x y hx hy k1 k2
        have b1 := hback x hx k1
        have b2 := hback y hy k2
        have e1 : E13 (fl n H).length 0 0 (mt n le x y) := (hEz _).2 ⟨x, y, hx, hy, b1, b2, .inl rfl⟩
        have e2 : E13 (fl n H).length 0 0 (mt n (du le) x y) := (hEz _).2 ⟨x, y, hx, hy, b1, b2, .inr rfl⟩
        exact ⟨by show (H _ || tv (E13 (fl n H).length 0 0 _)) = true; rw [tv_t e1, Bool.or_true], by show (H _ || tv (E13 (fl n H).length 0 0 _)) = true; rw [tv_t e2, Bool.or_true]⟩
      · have hc1 : ∀ m, cv (m + 1) H (E13 (fl n H).length 0 0) = (cv m H (E13 (fl n H).length 0 0) || (tv (E13 (fl n H).length 0 0 m) && !H m)) := fun m => by
          unfold cv
          by_cases c : ∃ z, z < m ∧ E13 (fl n H).length 0 0 z ∧ H z = false
          · rw [tv_t c, Bool.true_or]
            obtain ⟨z, h1, h2, h3⟩ := c
            exact tv_t ⟨z, by omega, h2, h3⟩
          · rw [tv_f c, Bool.false_or]
            by_cases e : E13 (fl n H).length 0 0 m
            · rw [tv_t e, Bool.true_and]
              cases hH : H m with
              | true =>
                refine tv_f ?_
                rintro ⟨z, h1, h2, h3⟩
                by_cases q : z = m
                · subst q; rw [hH] at h3; cases h3
                · exact c ⟨z, by omega, h2, h3⟩
              | false => exact tv_t ⟨m, by omega, e, hH⟩
            · rw [tv_f e, Bool.false_and]
              refine tv_f ?_
              rintro ⟨z, h1, h2, h3⟩
              by_cases q : z = m
              · subst q; exact e h2
              · exact c ⟨z, by omega, h2, h3⟩
        have hcnt : ∀ m, ((mkR m fun z => H z || tv (E13 (fl n H).length 0 0 z)).filter (! ·)).length + (if cv m H (E13 (fl n H).length 0 0) = true then 1 else 0) ≤ ((mkR m H).filter (! ·)).length := fun m => by
          induction m with
          | zero => rw [show cv 0 H (E13 (fl n H).length 0 0) = false from tv_f fun ⟨z, h1, _⟩ => absurd h1 (by omega)]; simp [mkR]
          | succ m ihm =>
            rw [mkR_succ, mkR_succ, List.filter_append, List.filter_append, List.length_append, List.length_append, hc1]
            cases hH : H m with
            | true => simpa using ihm
            | false =>
              cases he : tv (E13 (fl n H).length 0 0 m) with
              | true =>
                have : ((mkR m fun z => H z || tv (E13 (fl n H).length 0 0 z)).filter (! ·)).length ≤ ((mkR m H).filter (! ·)).length := Nat.le_trans (Nat.le_add_right _ _) ihm
                simp
                simpa using this
              | false => simp; simp at ihm; omega
        have hcn := hcnt n
        unfold hv
        simp only [if_true]
        split at hcn
        · rename_i q; rw [q]; simp only [if_true]; omega
        · rename_i q; rw [if_neg q]; omega

theorem bool_jbt {n : Nat} {le : Nat → Nat → Bool} (h : LatP n le) {x : Nat} (hx : x < n) : mt n (du le) x (bt n le) = x :=
  h.as (jlt h hx (bt_lt h)) hx (by have := h.du.mg hx (bt_lt h) hx (h.ord.refl x hx) (bt_le h hx); exact this) (j1 h hx (bt_lt h))

theorem cpl_bt {n : Nat} {le : Nat → Nat → Bool} (h : BoolP n le) : cpl n le (bt n le) = tp n le := by
  obtain ⟨h1, _, h3⟩ := cpl_spec h.cmp (bt_lt h.lp)
  rw [bool_jbt h.lp h1] at h3
  exact h3

def SubA (n : Nat) (le : Nat → Nat → Bool) (S : List Nat) : Prop := bt n le ∈ S ∧ (∀ s ∈ S, cpl n le s ∈ S) ∧ ∀ x ∈ S, ∀ y ∈ S, mt n le x y ∈ S ∧ mt n (du le) x y ∈ S

theorem specSub_eq {n : Nat} {le : Nat → Nat → Bool} (h : BoolP n le) {S : List Nat} (hS : ∀ s ∈ S, s < n) (hl : S.length ≤ 10) : zz26 big (pos n le) (mkR n fun x => ((cpl n le x : Nat) : Int)) (cs S) = some (tv (SubA n le S), ()) := by
  have h10 := h.lp.le10
  have hcl : (cs S).length ≤ 4294967296 := by rw [cs_len]; omega
  have mem : ∀ z : Nat, zz8 big (cs S) (z : Int) = some (decide (z ∈ S), ()) := fun z => by
    rw [l1Has_eq _ _ hcl]
    congr 2
    exact decide_eq_decide.2 cs_mem
  unfold zz26 zz26_s
  rw [specBottom_eq h.lp, Option.bind_some, mem, Option.bind_some]
  by_cases hb : bt n le ∈ S
  case neg => rw [show decide (gb n (du le) [] ∈ S) = false from decide_eq_false hb, Bool.not_false, cond_true, tv_f fun q => hb q.1]
  rw [show decide (gb n (du le) [] ∈ S) = true from decide_eq_true hb, Bool.not_true, cond_false, specTop_eq h.lp, Option.bind_some, mem, Option.bind_some]
  by_cases ht : tp n le ∈ S
  case neg => rw [show decide (gb n le [] ∈ S) = false from decide_eq_false ht, Bool.not_false, cond_true, tv_f fun q => ht (cpl_bt h ▸ q.2.1 _ q.1)]
  rw [show decide (gb n le [] ∈ S) = true from decide_eq_true ht, Bool.not_true, cond_false]
  refine zz26_h4 S.length (fun i => ∀ j (hj : j < S.length), j < i → cpl n le S[j] ∈ S ∧ ∀ k (hk : k < j), mt n le S[j] S[k] ∈ S ∧ mt n (du le) S[j] S[k] ∈ S) (by omega) ?_ ?_ 0 (by omega) (fun j _ q => absurd q (by omega))
  · intro rc i hi hv ih
    have hs := hS _ (List.getElem_mem hi)
    unfold zz26_b4
    rw [cs_len, cdt (by omega), atI_cs hi, Option.bind_some, atI_mkR hs, Option.bind_some, mem, Option.bind_some]
    by_cases hc : cpl n le S[i] ∈ S
    case neg => rw [decide_eq_false hc, Bool.not_false, cond_true, tv_f fun q => hc (q.2.1 _ (List.getElem_mem hi))]
    rw [decide_eq_true hc, Bool.not_true, cond_false]
    refine zz26_h9 i (fun k => ∀ j (hj : j < i), j < k → mt n le S[i] S[j] ∈ S ∧ mt n (du le) S[i] S[j] ∈ S) (by omega) ?_ ?_ 0 (by omega) (fun j _ q => absurd q (by omega))
    · intro rc2 k hk hv2 ih2
      have hk' : k < S.length := by omega
      have hsk := hS _ (List.getElem_mem hk')
      unfold zz26_b9
      rw [cdt (by omega)]
      simp only [atI_cs hi, atI_cs hk', Option.bind_some, l24Meet_eq h.lp hs hsk, l24Join_eq h.lp hs hsk, mem]
      by_cases h1 : mt n le S[i] S[k] ∈ S
      case neg => rw [decide_eq_false h1, Bool.not_false, cond_true, tv_f fun q => h1 (q.2.2 _ (List.getElem_mem hi) _ (List.getElem_mem hk')).1]
      by_cases h2 : mt n (du le) S[i] S[k] ∈ S
      case neg => rw [decide_eq_true h1, Bool.not_true, cond_false, decide_eq_false h2, Bool.not_false, cond_true, tv_f fun q => h2 (q.2.2 _ (List.getElem_mem hi) _ (List.getElem_mem hk')).2]
      rw [decide_eq_true h1, decide_eq_true h2, Bool.not_true, cond_false, cond_false, wr1 (by omega)]
      refine ih2 fun j hj hjk => ?_
      by_cases q : j = k
      · subst q; exact ⟨h1, h2⟩
      · exact hv2 j hj (by omega)
    · intro rc2 hv2
      unfold zz26_b9
      rw [cdf (by omega), zz26_a9, wr1 (by omega)]
      refine ih fun j hj hji => ?_
      by_cases q : j = i
      · subst q; exact ⟨hc, fun k hk => hv2 k hk hk⟩
      · exact hv j hj (by omega)
  · intro rc hv
    unfold zz26_b4
    rw [cs_len, cdf (by omega), zz26_a4, tv_t]
    refine ⟨hb, fun s hs => ?_, fun x hx y hy => ?_⟩
    · obtain ⟨j, hj, rfl⟩ := List.getElem_of_mem hs
      exact (hv j hj hj).1
    · obtain ⟨j, hj, rfl⟩ := List.getElem_of_mem hx
      obtain ⟨k, hk, rfl⟩ := List.getElem_of_mem hy
      rcases Nat.lt_trichotomy k j with q | q | q
      · exact (hv j hj hj).2 k q
      · subst q
        have hs := hS _ (List.getElem_mem hj)
        rw [mt_self h.lp hs, mt_self h.lp.du hs]
        exact ⟨List.getElem_mem hj, List.getElem_mem hj⟩
      · rw [mt_comm S[j] S[k], mt_comm (le := du le) S[j] S[k]]
        exact (hv k hk hk).2 j q

theorem implSub_eq {n : Nat} {le : Nat → Nat → Bool} (h : LatP n le) {P : Nat → Bool} : zz60 (some (lat n le)) (cs (fl n P)) = some (tv (fl n P ≠ [] ∧ ClP n le P), ()) := by
  have h10 := h.le10
  have hl := fl_len n P
  have hS : ∀ s ∈ fl n P, s < n := fun s hs => (fl_mem.1 hs).1
  unfold zz60 zz60_s
  rw [cs_len]
  by_cases h0 : fl n P = []
  · rw [h0, cdf (by simp), tv_f fun q => q.1 rfl]
  · have hpos : 0 < (fl n P).length := List.length_pos_iff.2 h0
    have hall : (cs (fl n P)).all (inB n) = true := by
      rw [List.all_eq_true]
      intro x hx
      obtain ⟨s, hs, rfl⟩ := List.mem_map.1 hx
      have := hS s hs
      unfold inB; rw [decide_eq_true_eq]; omega
    rw [cdt (by omega), Option.bind_some, lat1, has_eq _ (by rw [cs_len]; omega), Option.bind_some, hall, cond_true, rises_eq _ (by rw [cs_len]; omega), Option.bind_some, pair_rising (fl_pair n P), cond_true, generated_eq h hS (by omega), Option.bind_some, cs_len]
    congr 2
    have hle : ∀ x, x < n → P x = true → lcl n le (fun z => decide (z ∈ fl n P)) x = true := fun x hx hp => tv_t fun K _ hK => hK x hx (decide_eq_true (fl_mem.2 ⟨hx, hp⟩))
    have hcl : ClP n le (lcl n le fun z => decide (z ∈ fl n P)) := fun x y hx hy h1 h2 =>
      ⟨tv_t fun K hC hK => (hC x y hx hy (tv_iff.1 h1 K hC hK) (tv_iff.1 h2 K hC hK)).1, tv_t fun K hC hK => (hC x y hx hy (tv_iff.1 h1 K hC hK) (tv_iff.1 h2 K hC hK)).2⟩
    by_cases hc : ClP n le P
    · rw [tv_t ⟨h0, hc⟩, decide_eq_true_eq]
      congr 2
      refine fl_congr fun x hx => ?_
      cases hp : P x with
      | true => exact hle x hx hp
      | false =>
        refine tv_f fun q => ?_
        have := q P hc fun y hy hd => (fl_mem.1 (of_decide_eq_true hd)).2
        rw [hp] at this; cases this
    · rw [tv_f fun q => hc q.2, decide_eq_false_iff_not]
      intro e
      apply hc
      have hsub : (fl n P).Sublist (fl n (lcl n le fun z => decide (z ∈ fl n P))) := by
        have e2 : fl n P = (fl n (lcl n le fun z => decide (z ∈ fl n P))).filter P := by
          conv => lhs; unfold fl
          conv => rhs; unfold fl
          rw [List.filter_filter]
          refine List.filter_congr fun x hx => ?_
          cases hp : P x with
          | true => rw [show lcl n le (fun z => decide (z ∈ List.filter P (List.range n))) x = true from hle x (List.mem_range.1 hx) hp]; rfl
          | false => rfl
        have e3 := List.filter_sublist (l := fl n (lcl n le fun z => decide (z ∈ fl n P))) (p := P)
        rwa [← e2] at e3
      have heq := hsub.eq_of_length (by omega)
      have hP : ∀ x, x < n → P x = lcl n le (fun z => decide (z ∈ fl n P)) x := fun x hx => Go.Gx.fl_inj heq hx
      intro x y hx hy h1 h2
      rw [hP x hx] at h1
      rw [hP y hy] at h2
      have := hcl x y hx hy h1 h2
      rw [hP _ (h.mlt hx hy), hP _ (jlt h hx hy)]
      exact this

theorem subA_iff {n : Nat} {le : Nat → Nat → Bool} {P : Nat → Bool} (h : LatP n le) : SubA n le (fl n P) ↔ (fl n P ≠ [] ∧ ClP n le P) ∧ bt n le ∈ fl n P ∧ ∀ s ∈ fl n P, cpl n le s ∈ fl n P := by
  constructor
  · rintro ⟨h1, h2, h3⟩
    refine ⟨⟨fun e => (by rw [e] at h1; cases h1), fun x y hx hy p q => ?_⟩, h1, h2⟩
    have := h3 x (fl_mem.2 ⟨hx, p⟩) y (fl_mem.2 ⟨hy, q⟩)
    exact ⟨(fl_mem.1 this.1).2, (fl_mem.1 this.2).2⟩
  · rintro ⟨⟨_, h2⟩, h3, h4⟩
    refine ⟨h3, h4, fun x hx y hy => ?_⟩
    have a := fl_mem.1 hx
    have b := fl_mem.1 hy
    have := h2 x y a.1 b.1 a.2 b.2
    exact ⟨fl_mem.2 ⟨h.mlt a.1 b.1, this.1⟩, fl_mem.2 ⟨jlt h a.1 b.1, this.2⟩⟩

theorem l5Bits_eq {c k : Nat} (hk : k ≤ 10) (hc : c < 2 ^ k) : zz25 big (c : Int) = some (cs (fl k (bitp c)), ()) := by
  have hp : 2 ^ k ≤ 1024 := by have := Nat.pow_le_pow_right (n := 2) (by omega) hk; omega
  have hn := nbits_le hc
  have hcut : fl k (bitp c) = fl (nbits c) (bitp c) := fl_cut hn fun i h1 _ => by
    have : ¬ 0 < c / 2 ^ i := fun q => by have := nbits_pos.2 q; omega
    unfold bitp; rw [decide_eq_false]; generalize c / 2 ^ i = z at *; omega
  rw [hcut]
  unfold zz25 zz25_s
  refine zz25_h3 (nbits c) (fun i l => l = cs (fl i (bitp c))) (by omega) ?_ ?_ 0 (by omega) _ rfl
  · rintro rc i l hi rfl ih
    have hl := fl_len i (bitp c)
    have hd := nbits_pos.1 hi
    have hle := Nat.div_le_self c (2 ^ i)
    unfold zz25_b3
    rw [shr_nat (by omega) (by omega), Option.bind_some, cdt (by generalize c / 2 ^ i = z at *; omega), Option.bind_some, and1_nat (by omega), wr1 (by omega)]
    by_cases e : c / 2 ^ i % 2 = 1
    · rw [cdt (show ((c / 2 ^ i % 2 : Nat) : Int) = 1 by rw [e]; rfl), app1 (by rw [cs_len]; omega), Option.bind_some]
      exact ih _ (by rw [fl_t (P := bitp c) (decide_eq_true e)])
    · rw [cdf (show ¬ ((c / 2 ^ i % 2 : Nat) : Int) = 1 from fun q => e (by generalize c / 2 ^ i % 2 = z at *; omega))]
      exact ih _ (by rw [fl_f (P := bitp c) (decide_eq_false e)])
  · rintro rc l rfl
    have hd : ¬ 0 < c / 2 ^ nbits c := fun q => by have := nbits_pos.2 q; omega
    unfold zz25_b3
    rw [shr_nat (by omega) (by omega), Option.bind_some, cdf (by generalize c / 2 ^ nbits c = z at *; omega), zz25_a3]

noncomputable def suL (n : Nat) (le : Nat → Nat → Bool) (c : Nat) : List (List Int) := ((List.range c).filter fun b => tv (SubA n le (fl n (bitp b)))).map fun b => cs (fl n (bitp b))

theorem suL_succ (n : Nat) (le : Nat → Nat → Bool) (c : Nat) : suL n le (c + 1) = if tv (SubA n le (fl n (bitp c))) = true then suL n le c ++ [cs (fl n (bitp c))] else suL n le c := by
  unfold suL
  rw [List.range_succ, List.filter_append, List.map_append]
  by_cases h : SubA n le (fl n (bitp c))
  · simp [tv_t h]
  · simp [tv_f h]

theorem suL_len (n : Nat) (le : Nat → Nat → Bool) (c : Nat) : (suL n le c).length ≤ c := by
  unfold suL; rw [List.length_map]; exact Nat.le_trans (List.length_filter_le _ _) (by simp)

theorem suL_row {n : Nat} {le : Nat → Nat → Bool} {c : Nat} {x : List Int} (h : x ∈ suL n le c) : x.length ≤ n := by
  obtain ⟨b, _, rfl⟩ := List.mem_map.1 h
  have := fl_len n (bitp b)
  rw [cs_len]; omega

theorem cplL_cs (n : Nat) (le : Nat → Nat → Bool) : (mkR n fun x => ((cpl n le x : Nat) : Int)) = cs (mkR n fun x => cpl n le x) := by
  unfold cs mkR; rw [List.map_map]; rfl

theorem subs_eq (p : PT) (hx : ∀ r ∈ p.1, r.length ≤ 4294967296) : ∃ v : List (List Int) × Bool × Unit, zz29 big p = some (v, ()) ∧ zz64 big p = some (v, ()) ∧ v.1.length ≤ 1024 ∧ ∀ x ∈ v.1, x.length ≤ 10 := by
  unfold zz29 zz29_s zz64 zz64_s
  rcases bool_cases hx with ⟨n, le, e, h, h1, h2⟩ | ⟨h1, l, h2⟩
  · subst e
    have h10 := h.lp.le10
    have hp : 2 ^ n ≤ 1024 := by
      have := Nat.pow_le_pow_right (n := 2) (by omega) h10
      omega
    rw [h1, h2]
    simp only [Option.bind_some, Bool.not_true, cond_false, complList_eq h, specCompl_eq h]
    refine ⟨(sortBy cmpT (suL n le (2 ^ n)), true, ()), ?_, ?_, ?_, ?_⟩
    · show zz29_F6 big (pos n le) [] (mkR n fun x => ((cpl n le x : Nat) : Int)) (0 : Int) = _
      refine zz29_h6 (2 ^ n) (fun c out => out = sortBy cmpT (suL n le c)) (by omega) ?_ ?_ 0 (Nat.zero_le _) _ rfl
      · rintro rc c out hc rfl ih
        have hfl := suL_len n le c
        have hbl := fl_len n (bitp c)
        unfold zz29_b6
        rw [pos_len, shl1 (by omega), Option.bind_some, cdt (by unfold pw; omega), l5Bits_eq (by omega) hc, Option.bind_some, specSub_eq h (fun s hs => (fl_mem.1 hs).1) (by omega), Option.bind_some, wr1 (by omega)]
        by_cases hg : SubA n le (fl n (bitp c))
        · rw [tv_t hg, cond_true, sort5_eq _ _ (by rw [cs_len]; omega) (by rw [sortBy_len cmpT_ok]; omega) (sortBy_sorted cmpT_ok _), Option.bind_some]
          exact ih _ (by rw [suL_succ, if_pos (tv_t hg), sortBy_snoc])
        · rw [tv_f hg, cond_false]
          exact ih _ (by rw [suL_succ, if_neg (by rw [tv_f hg]; simp)])
      · rintro rc out rfl
        unfold zz29_b6
        rw [pos_len, shl1 (by omega), Option.bind_some, cdf (by unfold pw; omega), zz29_a6]
    · show zz64_F7 big (some (lat n le)) (mkR n fun x => ((cpl n le x : Nat) : Int)) [] (0 : Int) = _
      refine zz64_h7 (2 ^ n) (fun c out => out = suL n le c) (by omega) ?_ ?_ 0 (Nat.zero_le _) _ rfl
      · rintro rc c out hc rfl ih
        have hfl := suL_len n le c
        have hbl := fl_len n (bitp c)
        have hS : ∀ s ∈ fl n (bitp c), s < n := fun s hs => (fl_mem.1 hs).1
        have hcl : (cs (fl n (bitp c))).length ≤ 4294967296 := by rw [cs_len]; omega
        have hno : ¬ SubA n le (fl n (bitp c)) → rc (some (lat n le)) (mkR n fun x => ((cpl n le x : Nat) : Int)) (suL n le c) ((c + 1 : Nat) : Int) = some ((sortBy cmpT (suL n le (2 ^ n)), true, ()), ()) := fun q => ih _ (by rw [suL_succ, if_neg (by rw [tv_f q]; simp)])
        have hsa := subA_iff (P := bitp c) h.lp
        unfold zz64_b7
        rw [Option.bind_some, lat1, mkR_len, shl1 (by omega), Option.bind_some, cdt (by unfold pw; omega), bitsOf_eq (by omega) hc, Option.bind_some, implSub_eq h.lp, Option.bind_some, wr1 (by omega)]
        by_cases c1 : fl n (bitp c) ≠ [] ∧ ClP n le (bitp c)
        case neg => rw [tv_f c1, cond_false]; exact hno fun q => c1 (hsa.1 q).1
        rw [tv_t c1, cond_true, bottom_eq h.lp, Option.bind_some, hasNot_eq _ _ hcl, Option.bind_some]
        by_cases c2 : bt n le ∈ fl n (bitp c)
        case neg =>
          rw [show decide (((bt n le : Nat) : Int) ∉ cs (fl n (bitp c))) = true from decide_eq_true fun q => c2 (cs_mem.1 q), Bool.not_true, cond_false]
          exact hno fun q => c2 (hsa.1 q).2.1
        rw [show decide (((bt n le : Nat) : Int) ∉ cs (fl n (bitp c))) = false from decide_eq_false fun q => q (cs_mem.2 c2), Bool.not_false, cond_true, cplL_cs,
          compose_eq (fun s hs => by rw [mkR_len]; exact hS s hs) (by omega), Option.bind_some, isPart_eq2 _ _ (by rw [cs_len, List.length_map]; omega) hcl, Option.bind_some, ← cplL_cs]
        have hpt : (∀ x ∈ cs ((fl n (bitp c)).map fun s => (mkR n fun x => cpl n le x).getD s 0), x ∈ cs (fl n (bitp c))) ↔ ∀ s ∈ fl n (bitp c), cpl n le s ∈ fl n (bitp c) := by
          have hg : ∀ s, s < n → (mkR n fun x => cpl n le x).getD s 0 = cpl n le s := fun s hs => by rw [List.getD_eq_getElem?_getD, get_mkR hs]; rfl
          constructor
          · intro q s hs
            have := q _ (cs_mem.2 (List.mem_map.2 ⟨s, hs, rfl⟩))
            rw [hg s (hS s hs)] at this
            exact cs_mem.1 this
          · intro q x hx
            obtain ⟨y, hy, rfl⟩ := List.mem_map.1 hx
            obtain ⟨s, hs, rfl⟩ := List.mem_map.1 hy
            show (((mkR n fun x => cpl n le x).getD s 0 : Nat) : Int) ∈ _
            rw [hg s (hS s hs)]
            exact cs_mem.2 (q s hs)
        rw [tv_congr hpt]
        by_cases c3 : ∀ s ∈ fl n (bitp c), cpl n le s ∈ fl n (bitp c)
        · rw [tv_t c3, cond_true, app1 (by omega), Option.bind_some]
          exact ih _ (by rw [suL_succ, if_pos (tv_t (hsa.2 ⟨c1, c2, c3⟩))])
        · rw [tv_f c3, cond_false]; exact hno fun q => c3 (hsa.1 q).2.2
      · rintro rc out rfl
        have hfl := suL_len n le (2 ^ n)
        unfold zz64_b7
        rw [Option.bind_some, lat1, mkR_len, shl1 (by omega), Option.bind_some, cdf (by unfold pw; omega), zz64_a7]
        unfold impl_sortRows_k_compareTerms
        rw [sortRows_eq _ _ (by omega)]; rfl
    · show (sortBy cmpT _).length ≤ 1024
      rw [sortBy_len cmpT_ok]
      have := suL_len n le (2 ^ n)
      omega
    · intro x hx
      have := suL_row ((sortBy_mem cmpT_ok).1 hx)
      omega
  · rw [h1, h2]
    exact ⟨_, rfl, rfl, by simp, by simp⟩

theorem true_BooleanSubs (p : PT) (hw : Wf (.pair (.pair (.sl (.sl I)) .unit) .unit) (p, ())) : laws_FnExactBooleanSubs p = some (true, ()) := by
  obtain ⟨v, hv, hv1, hv2⟩ := szPoset_eq p 1048576 hw.1 (by omega) (by omega)
  unfold laws_FnExactBooleanSubs laws_FnExactBooleanSubs_s
  rw [hv, Option.bind_some]
  by_cases h : v < 0
  · rw [cdt h]
  · have hs := hv2 (by omega)
    obtain ⟨r, h1, h2, h3, h4⟩ := subs_eq p hs.rows
    obtain ⟨m, j, hm, hj, hj2⟩ := markPoset_ok hs 1 (by omega) (by omega)
    have hsum : (r.1.map List.length).sum ≤ 10000000000 := Nat.le_trans (sum_le h4) (by omega)
    have e1 : r.1.length ≤ 1099511627775 := by omega
    have e2 : ∀ x ∈ r.1, x.length ≤ 4294967296 := fun x hx => by have := h4 x hx; omega
    have e3 : (1 : Int) + ((r.1.map List.length).sum : Nat) ≤ 1099511627775 := by omega
    simp only [cdf h, toPoset_eq hs, Option.bind_some, h1, h2, eqPoset_eq hs, eqIntSS_eq r.1 r.1 e1 e2,
        hm, markIntSS_eq r.1 1 e1 (show (0 : Int) ≤ 1 by omega) e3, heldIntSS_eq 1 (r.1.map List.length) (show (r.1.map List.length).length ≤ 1099511627775 by rw [List.length_map]; omega) (show (0 : Int) ≤ 1 by omega) e3]
    simp
    repeat rw [cdf (by omega)]


end Go.Proofs.Ytlndlclemhfekaa
