import Derived.Test.YtlndlclemhfekaaGreatPTab
import Derived.Test.YtlndlclemhfekaaGreatHk13
import Derived.KernelRfl
set_option linter.unusedVariables false
set_option linter.unusedSimpArgs false
namespace Go.Proofs.YtlndlclemhfekaaGreat
open Go Go.Gx Go.Proofs

theorem toIntS_l (N : Nat) (k : List Int → Option (List Int × Unit)) : ∀ (n : Nat) (a out : List Int) (i : Nat), a.length - i < n → i ≤ a.length → out.length = a.length → a.length ≤ 1099511627776 →
    zz3_l3 N k n a out i = k (out.take i ++ a.drop i)
  | 0, _, _, _, h, _, _, _ => by omega
  | n + 1, a, out, i, h, hi, ho, hb => by
    simp only [zz3_l3, zz3_b3]
    by_cases hlt : i < a.length
    · rw [cdt (by omega), atI_lt a i hlt, Option.bind_some, atI_lt out i (by omega), Option.bind_some, Int.toNat_natCast, List.getElem?_eq_getElem (by omega), Option.bind_some, wr (by omega) (by omega)]
      have := toIntS_l N k n a (out.set i a[i]) (i + 1) (by omega) (by omega) (by simpa using ho) hb
      rw [show ((i : Int) + 1) = ((i + 1 : Nat) : Int) by omega, this]
      congr 1
      rw [List.take_succ_eq_append_getElem (by simp; omega), List.take_set, List.set_eq_of_length_le (by simp [Nat.min_le_left]), List.append_assoc]
      congr 1
      rw [List.getElem_set_self, List.singleton_append, ← List.drop_eq_getElem_cons hlt]
    · rw [cdf (by omega)]
      have : i = a.length := by omega
      subst this
      rw [List.drop_length, List.append_nil, List.take_of_length_le (by omega)]

theorem toIntS_eq (a : List Int) (h : a.length ≤ 4294967296) : zz3 big a = some (a, ()) := by
  have hb := big_ge
  unfold zz3 zz3_s
  rw [mkI_nat _ _ h, Option.bind_some, Option.bind_some, cdt (by omega)]
  unfold zz3_F3
  have := toIntS_l big zz3_a3 big a (List.replicate a.length 0) 0 (by omega) (by omega) (by simp) (by omega)
  refine Eq.trans this ?_
  simp [zz3_a3]

theorem eqIntS_l (N : Nat) (k : Option (Bool × Unit)) : ∀ (n : Nat) (a b : List Int) (i : Nat), a.length - i < n → i ≤ a.length → b.length = a.length → a.length ≤ 1099511627776 →
    zz75_l4 N k n a b i = if a.drop i = b.drop i then k else some (false, ())
  | 0, _, _, _, h, _, _, _ => by omega
  | n + 1, a, b, i, h, hi, hl, hb => by
    simp only [zz75_l4, zz75_b4]
    by_cases hlt : i < a.length
    · rw [cdt (by omega), atI_lt a i hlt, Option.bind_some, atI_lt b i (by omega), Option.bind_some, wr (by omega) (by omega)]
      have := eqIntS_l N k n a b (i + 1) (by omega) (by omega) hl hb
      rw [show ((i : Int) + 1) = ((i + 1 : Nat) : Int) by omega, this]
      rw [List.drop_eq_getElem_cons hlt, List.drop_eq_getElem_cons (show i < b.length by omega)]
      by_cases hx : a[i] = b[i]
      · rw [cdf (by simpa using hx), hx]; simp only [List.cons.injEq, true_and]
      · rw [cdt hx, if_neg (fun e => hx (by simp only [List.cons.injEq] at e; exact e.1))]
    · rw [cdf (by omega), List.drop_eq_nil_of_le (by omega), List.drop_eq_nil_of_le (by omega)]
      simp

theorem eqIntS_eq (a b : List Int) (h : a.length ≤ 1099511627775) : zz75 big a b = some (decide (a = b), ()) := by
  have hb := big_ge
  unfold zz75 zz75_s
  by_cases hl : a.length = b.length
  · rw [cdf (by simp [hl])]
    unfold zz75_F4
    have := eqIntS_l big zz75_a4 big a b 0 (by omega) (by omega) (by omega) (by omega)
    rw [show (0 : Int) = ((0 : Nat) : Int) from rfl, this]
    simp only [List.drop_zero, zz75_a4]
    by_cases he : a = b <;> simp [he]
  · rw [cdt (by omega)]
    have : a ≠ b := by rintro rfl; exact hl rfl
    simp [this]

theorem l1In_eq (x a b : Int) : zz6 x a b = some (decide (a ≤ x ∧ x ≤ b), ()) := by
  unfold zz6 zz6_s
  by_cases h : a ≤ x <;> simp [h]

def marks : Int → Nat → List Int
  | _, 0 => []
  | k, n + 1 => k :: marks (k + 1) n

theorem marks_len : ∀ (k : Int) (n : Nat), (marks k n).length = n
  | _, 0 => rfl
  | k, n + 1 => by simp [marks, marks_len (k + 1) n]

theorem markIntS_l (N : Nat) (kk : List Int → Int → Option (Int × (List Int × Unit))) : ∀ (n : Nat) (a : List Int) (k : Int) (i : Nat), a.length - i < n → i ≤ a.length → a.length ≤ 1099511627776 → 0 ≤ k → k ≤ 1125899906842624 →
    k + (a.length - i : Nat) ≤ 1125899906842624 → zz78_l2 N kk n a k i = kk (a.take i ++ marks k (a.length - i)) (k + (a.length - i : Nat))
  | 0, _, _, _, h, _, _, _, _, _ => by omega
  | n + 1, a, k, i, h, hi, hb, hk0, hk, hk2 => by
    simp only [zz78_l2, zz78_b2]
    by_cases hlt : i < a.length
    · rw [cdt (by omega), atI_lt a i hlt, Option.bind_some, Int.toNat_natCast, List.getElem?_eq_getElem hlt, Option.bind_some, wr (by omega) (by omega), wr (by omega) (by omega)]
      have := markIntS_l N kk n (a.set i k) (k + 1) (i + 1) (by simp; omega) (by simp; omega) (by simpa using hb) (by omega) (by omega) (by simp; omega)
      rw [show ((i : Int) + 1) = ((i + 1 : Nat) : Int) by omega, this]
      rw [List.length_set, List.take_succ_eq_append_getElem (by simp; omega), List.take_set, List.set_eq_of_length_le (by simp [Nat.min_le_left]), List.append_assoc, List.getElem_set_self]
      have e : a.length - i = (a.length - (i + 1)) + 1 := by omega
      rw [e, marks]
      congr 1
      omega
    · rw [cdf (by omega)]
      have : i = a.length := by omega
      subst this
      simp [marks]

theorem markIntS_eq (a : List Int) (k : Int) (h : a.length ≤ 1099511627775) (hk : 0 ≤ k) (hk2 : k ≤ 1099511627776) : zz78 big a k = some (k + a.length, (marks k a.length, ())) := by
  have hb := big_ge
  unfold zz78 zz78_s zz78_F2
  have := markIntS_l big zz78_a2 big a k 0 (by omega) (by omega) (by omega) hk (by omega) (by omega)
  refine Eq.trans this ?_
  simp [zz78_a2]

theorem heldIntS_l (N : Nat) (kk : Int → Option (Int × Unit)) : ∀ (n : Nat) (a b : List Int) (k : Int) (d : Nat), d < n → a = b ++ marks k d → a.length ≤ 1099511627776 → 0 ≤ k → k + d ≤ 1125899906842624 →
    zz81_l2 N kk n a k b.length = kk (k + d)
  | 0, _, _, _, _, h, _, _, _, _ => by omega
  | n + 1, a, b, k, d, h, ha, hb, hk0, hk => by
    simp only [zz81_l2, zz81_b2]
    have hlen : a.length = b.length + d := by rw [ha]; simp [marks_len]
    cases d with
    | zero => rw [cdf (by omega)]; simp
    | succ d =>
      have hlt : b.length < a.length := by omega
      have hx : a[b.length] = k := by
        have : a[b.length]? = some k := by rw [ha]; simp [marks]
        rw [List.getElem?_eq_getElem hlt] at this
        simpa using this
      rw [cdt (by omega), atI_lt a b.length hlt, Option.bind_some, hx, cdf (by simp), wr (by omega) (by omega), wr (by omega) (by omega)]
      have := heldIntS_l N kk n a (b ++ [k]) (k + 1) d (by omega) (by rw [ha, marks, List.append_assoc]; rfl) hb (by omega) (by omega)
      rw [List.length_append, List.length_singleton] at this
      rw [show ((b.length : Int) + 1) = ((b.length + 1 : Nat) : Int) by omega, this]
      congr 1
      omega

theorem heldIntS_eq (k : Int) (d : Nat) (h : d ≤ 1099511627775) (hk : 0 ≤ k) (hk2 : k ≤ 1099511627776) : zz81 big (marks k d) k = some (k + d, ()) := by
  have hb := big_ge
  unfold zz81 zz81_s zz81_F2
  exact heldIntS_l big zz81_a2 big (marks k d) [] k d (by omega) rfl (by rw [marks_len]; omega) hk (by omega)

def subst (l : Int) (s : List Int) : List Int → List Int
  | [] => []
  | x :: xs => if x = l then s ++ subst l s xs else x :: subst l s xs

theorem eqIntSS_l (N : Nat) (k : Option (Bool × Unit)) : ∀ (n : Nat) (a b : List (List Int)) (i : Nat), a.length - i < n → i ≤ a.length → b.length = a.length → a.length ≤ 1099511627776 → (∀ x ∈ a, x.length ≤ 4294967296) →
    zz76_l4 N k n a b i = if a.drop i = b.drop i then k else some (false, ())
  | 0, _, _, _, h, _, _, _, _ => by omega
  | n + 1, a, b, i, h, hi, hl, hb, hx => by
    simp only [zz76_l4, zz76_b4]
    by_cases hlt : i < a.length
    · have hxx := hx _ (List.getElem_mem hlt)
      rw [cdt (by omega), atI_lt a i hlt, Option.bind_some, atI_lt b i (by omega), Option.bind_some, eqIntS_eq _ _ (by omega), Option.bind_some, wr (by omega) (by omega)]
      have := eqIntSS_l N k n a b (i + 1) (by omega) (by omega) hl hb hx
      rw [show ((i : Int) + 1) = ((i + 1 : Nat) : Int) by omega, this]
      rw [List.drop_eq_getElem_cons hlt, List.drop_eq_getElem_cons (show i < b.length by omega)]
      by_cases hx : a[i] = b[i]
      · rw [hx]; simp only [decide_true, Bool.not_true, cond_false, List.cons.injEq, true_and]
      · rw [decide_eq_false hx]; exact (if_neg (fun e => hx (List.cons.inj e).1)).symm
    · rw [cdf (by omega), List.drop_eq_nil_of_le (by omega), List.drop_eq_nil_of_le (by omega)]
      simp

theorem eqIntSS_eq (a b : List (List Int)) (h : a.length ≤ 1099511627775) (hx : ∀ x ∈ a, x.length ≤ 4294967296) : zz76 big a b = some (decide (a = b), ()) := by
  have hb := big_ge
  unfold zz76 zz76_s
  by_cases hl : a.length = b.length
  · rw [cdf (by simp [hl])]
    unfold zz76_F4
    have := eqIntSS_l big zz76_a4 big a b 0 (by omega) (by omega) (by omega) (by omega) hx
    refine Eq.trans this ?_
    simp only [List.drop_zero, zz76_a4]
    by_cases he : a = b <;> simp [he]
  · rw [cdt (by omega)]
    have : a ≠ b := by rintro rfl; exact hl rfl
    simp [this]

def marksS : Int → List Nat → List (List Int)
  | _, [] => []
  | k, n :: ns => marks k n :: marksS (k + n) ns

theorem marksS_len : ∀ (k : Int) (ns : List Nat), (marksS k ns).length = ns.length
  | _, [] => rfl
  | k, n :: ns => by simp [marksS, marksS_len _ ns]

theorem markIntSS_l (N : Nat) (kk : List (List Int) → Int → Option (Int × (List (List Int) × Unit))) : ∀ (n : Nat) (a : List (List Int)) (k : Int) (i : Nat), a.length - i < n → i ≤ a.length → a.length ≤ 1099511627776 → 0 ≤ k → k + ((a.drop i).map List.length).sum ≤ 1099511627775 →
    zz79_l2 N kk n a k i = kk (a.take i ++ marksS k ((a.drop i).map List.length)) (k + ((a.drop i).map List.length).sum)
  | 0, _, _, _, h, _, _, _, _ => by omega
  | n + 1, a, k, i, h, hi, hb, hk0, hk => by
    simp only [zz79_l2, zz79_b2]
    by_cases hlt : i < a.length
    · rw [List.drop_eq_getElem_cons hlt, List.map_cons, List.sum_cons] at hk
      rw [cdt (by omega), atI_lt a i hlt, Option.bind_some, Int.toNat_natCast, List.getElem?_eq_getElem hlt, Option.bind_some, Option.bind_some, markIntS_eq _ k (by omega) (by omega) (by omega), Option.bind_some, Option.bind_some, Option.bind_some, wr (n := (i : Int) + 1) (by omega) (by omega)]
      have e1 : (a.set i (marks k a[i].length)).drop (i + 1) = a.drop (i + 1) := by rw [List.drop_set, if_pos (by omega)]
      have := markIntSS_l N kk n (a.set i (marks k a[i].length)) (k + a[i].length) (i + 1) (by simp; omega) (by simp; omega) (by simpa using hb) (by omega) (by rw [e1]; omega)
      rw [show ((i : Int) + 1) = ((i + 1 : Nat) : Int) by omega, this, e1]
      rw [List.take_succ_eq_append_getElem (by simp; omega), List.take_set, List.set_eq_of_length_le (by simp [Nat.min_le_left]), List.append_assoc, List.getElem_set_self]
      rw [List.drop_eq_getElem_cons hlt, List.map_cons, List.sum_cons, marksS]
      congr 1
      omega
    · rw [cdf (by omega)]
      have : i = a.length := by omega
      subst this
      simp [marksS]

theorem markIntSS_eq (a : List (List Int)) (k : Int) (h : a.length ≤ 1099511627775) (hk : 0 ≤ k) (hk2 : k + (a.map List.length).sum ≤ 1099511627775) : zz79 big a k = some (k + (a.map List.length).sum, (marksS k (a.map List.length), ())) := by
  have hb := big_ge
  unfold zz79 zz79_s zz79_F2
  have := markIntSS_l big zz79_a2 big a k 0 (by omega) (by omega) (by omega) hk (by simpa using hk2)
  refine Eq.trans this ?_
  simp [zz79_a2]

theorem heldIntSS_l (N : Nat) (kk : Int → Option (Int × Unit)) : ∀ (n : Nat) (a b : List (List Int)) (k : Int) (ns : List Nat), ns.length < n → a = b ++ marksS k ns → a.length ≤ 1099511627776 → 0 ≤ k → k + ns.sum ≤ 1099511627775 →
    zz82_l2 N kk n a k b.length = kk (k + ns.sum)
  | 0, _, _, _, _, h, _, _, _, _ => by omega
  | n + 1, a, b, k, ns, h, ha, hb, hk0, hk => by
    simp only [zz82_l2, zz82_b2]
    have hlen : a.length = b.length + ns.length := by rw [ha]; simp [marksS_len]
    cases ns with
    | nil => rw [cdf (by simp at hlen; omega)]; simp
    | cons m ns =>
      simp only [List.length_cons] at hlen h
      simp only [List.sum_cons] at hk
      have hlt : b.length < a.length := by omega
      have hx : a[b.length] = marks k m := by
        have : a[b.length]? = some (marks k m) := by rw [ha]; simp [marksS]
        rw [List.getElem?_eq_getElem hlt] at this
        simpa using this
      rw [cdt (by omega), atI_lt a b.length hlt, Option.bind_some, hx, heldIntS_eq k m (by omega) hk0 (by omega), Option.bind_some, cdf (by omega), wr (by omega) (by omega)]
      have := heldIntSS_l N kk n a (b ++ [marks k m]) (k + m) ns (by omega) (by rw [ha, marksS, List.append_assoc]; rfl) hb (by omega) (by omega)
      rw [List.length_append, List.length_singleton] at this
      rw [show ((b.length : Int) + 1) = ((b.length + 1 : Nat) : Int) by omega, this, List.sum_cons]
      congr 1
      omega

theorem heldIntSS_eq (k : Int) (ns : List Nat) (h : ns.length ≤ 1099511627775) (hk : 0 ≤ k) (hk2 : k + ns.sum ≤ 1099511627775) : zz82 big (marksS k ns) k = some (k + ns.sum, ()) := by
  have hb := big_ge
  unfold zz82 zz82_s zz82_F2
  exact heldIntSS_l big zz82_a2 big (marksS k ns) [] k ns (by omega) rfl (by rw [marksS_len]; omega) hk hk2

theorem markIntS_eq2 (a : List Int) (k : Int) (h : a.length ≤ 1099511627775) (hk : 0 ≤ k) (hk2 : k ≤ 10995116277760) : zz78 big a k = some (k + a.length, (marks k a.length, ())) := by
  have hb := big_ge
  unfold zz78 zz78_s zz78_F2
  have := markIntS_l big zz78_a2 big a k 0 (by omega) (by omega) (by omega) hk (by omega) (by omega)
  refine Eq.trans this ?_
  simp [zz78_a2]

def risingB : List Int → Bool
  | x :: y :: r => decide (x < y) && risingB (y :: r)
  | _ => true

def inB (n : Nat) (x : Int) : Bool := decide (0 ≤ x ∧ x < n)

def isSetB (n : Nat) (s : List Int) : Bool := s.all (inB n) && risingB s

theorem rising_step (l : List Int) (i : Nat) (h : i < l.length) (h1 : 1 ≤ i) : risingB (l.drop (i - 1)) = (decide (l[i - 1] < l[i]) && risingB (l.drop i)) := by
  rw [List.drop_eq_getElem_cons (show i - 1 < l.length by omega), show i - 1 + 1 = i by omega, List.drop_eq_getElem_cons h]
  rfl

theorem rising_end (l : List Int) (i : Nat) (h : l.length ≤ i) (h1 : 1 ≤ i) : risingB (l.drop (i - 1)) = true := by
  by_cases h2 : l.length = i
  · rw [List.drop_eq_getElem_cons (show i - 1 < l.length by omega), List.drop_eq_nil_of_le (by omega)]
    rfl
  · rw [List.drop_eq_nil_of_le (by omega)]
    rfl

theorem specRising_l (N : Nat) {m : Nat} : ∀ (n : Nat) (l : List Int) (i : Nat), l.length - i < n → i ≤ l.length → l.length ≤ 1099511627776 →
    zz7_l2 N zz7_a2 n l 0 ((m : Int) - 1) i = some ((l.drop i).all (inB m) && risingB (l.drop (i - 1)), ())
  | 0, _, _, h, _, _ => by omega
  | n + 1, l, i, h, hi, hb => by
    simp only [zz7_l2, zz7_b2]
    by_cases hlt : i < l.length
    · have e : decide (0 ≤ l[i] ∧ l[i] ≤ (m : Int) - 1) = inB m l[i] := by
        unfold inB; congr 1; exact propext ⟨fun h => ⟨h.1, by omega⟩, fun h => ⟨h.1, by omega⟩⟩
      rw [cdt (by omega), atI_lt l i hlt, Option.bind_some, l1In_eq, Option.bind_some, e, wr (n := (i : Int) + 1) (by omega) (by omega), wr (n := (i : Int) - 1) (by omega) (by omega)]
      rw [show ((i : Int) + 1) = ((i + 1 : Nat) : Int) by omega, specRising_l N n l (i + 1) (by omega) (by omega) hb]
      rw [show i + 1 - 1 = i by omega]
      cases hin : inB m l[i] with
      | false =>
        rw [List.drop_eq_getElem_cons hlt, List.all_cons, hin]
        rfl
      | true =>
        simp only [Bool.not_true, cond_false]
        by_cases h0 : 0 < i
        · rw [cdt (by omega), show ((i : Int) - 1) = ((i - 1 : Nat) : Int) by omega, atI_lt l (i - 1) (by omega), Option.bind_some, Option.bind_some, rising_step l i hlt h0]
          by_cases hle : l[i] ≤ l[i - 1]
          · rw [cdt hle, decide_eq_false (by omega)]
            simp
          · rw [cdf hle, decide_eq_true (show l[i - 1] < l[i] by omega), List.drop_eq_getElem_cons hlt, List.all_cons, hin]
            simp
        · rw [cdf (by omega)]
          have : i = 0 := by omega
          subst this
          rw [show (0 : Nat) - 1 = 0 from rfl, List.drop_eq_getElem_cons hlt, List.all_cons, hin]
          simp
    · rw [cdf (by omega), List.drop_eq_nil_of_le (by omega)]
      by_cases h1 : 1 ≤ i
      · rw [rising_end l i (by omega) h1]; rfl
      · have : l = [] := List.eq_nil_of_length_eq_zero (by omega)
        subst this
        simp [risingB, zz7_a2]

theorem inSize_l (N : Nat) {m : Nat} : ∀ (n : Nat) (l : List Int) (i : Nat), l.length - i < n → i ≤ l.length → l.length ≤ 1099511627776 →
    zz39_l2 N zz39_a2 n (m : Int) l (l.length : Int) i = some ((l.drop i).all (inB m), ())
  | 0, _, _, h, _, _ => by omega
  | n + 1, l, i, h, hi, hb => by
    simp only [zz39_l2, zz39_b2]
    by_cases hlt : i < l.length
    · rw [cdt (by omega), atI_lt l i hlt, Option.bind_some, wr (n := (i : Int) + 1) (by omega) (by omega)]
      rw [show ((i : Int) + 1) = ((i + 1 : Nat) : Int) by omega, inSize_l N n l (i + 1) (by omega) (by omega) hb]
      rw [List.drop_eq_getElem_cons hlt, List.all_cons]
      unfold inB
      by_cases h0 : l[i] < 0
      · rw [cdt h0, decide_eq_false (by omega)]; rfl
      · rw [cdf h0]
        by_cases h1 : (m : Int) ≤ l[i]
        · rw [cdt h1, decide_eq_false (by omega)]; rfl
        · rw [cdf h1, decide_eq_true (by omega)]; rfl
    · rw [cdf (by omega), List.drop_eq_nil_of_le (by omega)]
      rfl

theorem rises_l (N : Nat) : ∀ (n : Nat) (l : List Int) (i : Nat), l.length - i < n → 1 ≤ i → l.length ≤ 1099511627776 → i ≤ 1099511627777 →
    zz38_l2 N zz38_a2 n l i = some (risingB (l.drop (i - 1)), ())
  | 0, _, _, h, _, _, _ => by omega
  | n + 1, l, i, h, hi, hb, hi2 => by
    simp only [zz38_l2, zz38_b2]
    by_cases hlt : i < l.length
    · rw [cdt (by omega), wr (n := (i : Int) - 1) (by omega) (by omega), show ((i : Int) - 1) = ((i - 1 : Nat) : Int) by omega, atI_lt l (i - 1) (by omega), Option.bind_some, atI_lt l i hlt, Option.bind_some, wr (n := (i : Int) + 1) (by omega) (by omega)]
      rw [show ((i : Int) + 1) = ((i + 1 : Nat) : Int) by omega, rises_l N n l (i + 1) (by omega) (by omega) hb (by omega), rising_step l i hlt hi, show i + 1 - 1 = i by omega]
      by_cases hle : l[i] ≤ l[i - 1]
      · rw [cdt hle, decide_eq_false (by omega)]; rfl
      · rw [cdf hle, decide_eq_true (by omega)]; rfl
    · rw [cdf (by omega), rising_end l i (by omega) hi]
      rfl

theorem wr1 {i : Nat} (h : i ≤ 4611686018427387904) : IntKind.i64.wrap ((i : Int) + 1) = ((i + 1 : Nat) : Int) := by rw [wr (by omega) (by omega)]; omega

abbrev PT := List (List Int) × Unit

def pos (n : Nat) (le : Nat → Nat → Bool) : PT := (mkR n fun y => cs (fl n fun x => le x y), ())

def leP (p : PT) (x y : Nat) : Bool := decide ((x : Int) ∈ p.1.getD y [])

structure Ord (n : Nat) (le : Nat → Nat → Bool) : Prop where
  refl : ∀ x, x < n → le x x = true
  anti : ∀ x y, x < n → y < n → x ≠ y → le x y = true → le y x = false
  trans : ∀ x y z, x < n → y < n → z < n → le x y = true → le y z = true → le x z = true

structure Good (p : PT) : Prop where
  len : p.1.length ≤ 10
  rows : ∀ r ∈ p.1, isSetB p.1.length r = true
  ord : Ord p.1.length (leP p)

theorem l1Has_eq (l : List Int) (x : Int) (h : l.length ≤ 4294967296) : zz8 big l x = some (decide (x ∈ l), ()) := by
  unfold zz8 zz8_s
  refine zz8_h2 l.length (fun i => x ∉ l.take i) (by omega) ?_ ?_ 0 (by omega) (by simp)
  · intro rc i hi hv ih
    unfold zz8_b2
    rw [cdt (by omega), atI_lt l i hi, Option.bind_some]
    by_cases hx : l[i] = x
    · rw [cdt hx, decide_eq_true (hx ▸ List.getElem_mem hi)]
    · rw [cdf hx, wr1 (by omega)]
      refine ih fun h => ?_
      rw [List.take_succ_eq_append_getElem hi, List.mem_append, List.mem_singleton] at h
      exact h.elim hv fun e => hx e.symm
  · intro rc hv
    unfold zz8_b2
    rw [cdf (by omega), zz8_a2, decide_eq_false (by simpa using hv)]

theorem l1Has_cs (S : List Nat) (x : Nat) (h : S.length ≤ 4294967296) : zz8 big (cs S) (x : Int) = some (decide (x ∈ S), ()) := by
  rw [l1Has_eq _ _ (by simpa using h)]
  simp only [cs_mem]

theorem l5Within_eq (a b : List Int) (ha : a.length ≤ 4294967296) (hb : b.length ≤ 4294967296) : zz9 big a b = some (tv (∀ x ∈ a, x ∈ b), ()) := by
  unfold zz9 zz9_s
  refine zz9_h2 a.length (fun i => ∀ x ∈ a.take i, x ∈ b) (by omega) ?_ ?_ 0 (by omega) (by simp)
  · intro rc i hi hv ih
    unfold zz9_b2
    rw [cdt (by omega), atI_lt a i hi, Option.bind_some, l1Has_eq _ _ hb, Option.bind_some]
    by_cases hx : a[i] ∈ b
    · rw [decide_eq_true hx, wr1 (by omega)]
      exact ih ((all_take_succ hi).2 ⟨hv, hx⟩)
    · rw [decide_eq_false hx, tv_f fun h => hx (h _ (List.getElem_mem hi))]
      rfl
  · intro rc hv
    unfold zz9_b2
    rw [cdf (by omega), zz9_a2, tv_t (by simpa using hv)]

theorem specRising_eq (n : Nat) (s : List Int) (hn : n ≤ 1099511627776) (hs : s.length ≤ 1099511627775) : zz7 big s 0 ((n : Int) - 1) = some (isSetB n s, ()) := by
  have hb := big_ge
  unfold zz7 zz7_s zz7_F2
  have := specRising_l big (m := n) big s 0 (by omega) (by omega) (by omega)
  rw [show zz7_l2 big zz7_a2 big s 0 ((n : Int) - 1) 0 = _ from this]
  rfl

theorem inSize_eq (n : Nat) (s : List Int) (hs : s.length ≤ 1099511627775) : zz39 big s (n : Int) = some (s.all (inB n), ()) := by
  have hb := big_ge
  unfold zz39 zz39_s zz39_F2
  have h1 := inSize_l big (m := n) big s 0 (by omega) (by omega) (by omega)
  rw [show (0 : Int) = ((0 : Nat) : Int) from rfl, h1]
  rfl

theorem rises_eq (s : List Int) (hs : s.length ≤ 1099511627775) : zz38 big s = some (risingB s, ()) := by
  have hb := big_ge
  unfold zz38 zz38_s zz38_F2
  have h2 := rises_l big big s 1 (by omega) (by omega) (by omega) (by omega)
  rw [show (1 : Int) = ((1 : Nat) : Int) from rfl, h2]
  rfl

theorem rising_pair : ∀ {l : List Int}, risingB l = true → l.Pairwise (· < ·)
  | [], _ => List.Pairwise.nil
  | [x], _ => by simp
  | x :: y :: r, h => by
    simp only [risingB, Bool.and_eq_true, decide_eq_true_eq] at h
    have h2 := rising_pair h.2
    refine List.pairwise_cons.2 ⟨fun z hz => ?_, h2⟩
    rcases List.mem_cons.1 hz with rfl | hz
    · exact h.1
    · have := (List.pairwise_cons.1 h2).1 z hz
      omega

theorem pair_rising : ∀ {l : List Int}, l.Pairwise (· < ·) → risingB l = true
  | [], _ => rfl
  | [x], _ => rfl
  | x :: y :: r, h => by
    have h1 := List.pairwise_cons.1 h
    simp only [risingB, Bool.and_eq_true, decide_eq_true_eq]
    exact ⟨h1.1 y (by simp), pair_rising h1.2⟩

theorem pair_ext : ∀ {l m : List Int}, l.Pairwise (· < ·) → m.Pairwise (· < ·) → (∀ x, x ∈ l ↔ x ∈ m) → l = m
  | [], [], _, _, _ => rfl
  | [], y :: m, _, _, h => by have := (h y).2 (by simp); simp at this
  | x :: l, [], _, _, h => by have := (h x).1 (by simp); simp at this
  | x :: l, y :: m, h1, h2, h => by
    have p1 := List.pairwise_cons.1 h1
    have p2 := List.pairwise_cons.1 h2
    have e : x = y := by
      rcases List.mem_cons.1 ((h x).1 (by simp)) with e | hx
      · exact e
      · rcases List.mem_cons.1 ((h y).2 (by simp)) with e | hy
        · exact e.symm
        · have := p1.1 y hy
          have := p2.1 x hx
          omega
    subst e
    congr 1
    refine pair_ext p1.2 p2.2 fun z => ?_
    constructor
    · intro hz
      rcases List.mem_cons.1 ((h z).1 (List.mem_cons_of_mem _ hz)) with e | hz2
      · have := p1.1 z hz; omega
      · exact hz2
    · intro hz
      rcases List.mem_cons.1 ((h z).2 (List.mem_cons_of_mem _ hz)) with e | hz2
      · have := p2.1 z hz; omega
      · exact hz2

theorem fl_pair (n : Nat) (P : Nat → Bool) : (cs (fl n P)).Pairwise (· < ·) := by
  unfold cs fl
  rw [List.pairwise_map]
  refine List.Pairwise.filter _ ?_
  have := List.pairwise_lt_range (n := n)
  exact this.imp fun h => by omega

theorem setB_form {n : Nat} {l : List Int} (h : isSetB n l = true) : l = cs (fl n fun x => decide ((x : Int) ∈ l)) := by
  unfold isSetB at h
  rw [Bool.and_eq_true] at h
  refine pair_ext (rising_pair h.2) (fl_pair _ _) fun x => ?_
  constructor
  · intro hx
    have h1 := List.all_eq_true.1 h.1 x hx
    unfold inB at h1
    rw [decide_eq_true_eq] at h1
    have e : x = ((x.toNat : Nat) : Int) := by omega
    rw [e, cs_mem, fl_mem]
    refine ⟨by omega, decide_eq_true ?_⟩
    rw [← e]; exact hx
  · intro hx
    unfold cs at hx
    obtain ⟨y, hy, e⟩ := List.mem_map.1 hx
    have := (fl_mem.1 hy).2
    rw [decide_eq_true_eq] at this
    exact e ▸ this

theorem fl_setB (n : Nat) (P : Nat → Bool) : isSetB n (cs (fl n P)) = true := by
  unfold isSetB
  rw [Bool.and_eq_true]
  refine ⟨List.all_eq_true.2 fun x hx => ?_, pair_rising (fl_pair n P)⟩
  unfold cs at hx
  obtain ⟨y, hy, e⟩ := List.mem_map.1 hx
  have := (fl_mem.1 hy).1
  unfold inB
  exact decide_eq_true (by omega)

theorem pos_form {p : PT} (h : ∀ r ∈ p.1, isSetB p.1.length r = true) : p = pos p.1.length (leP p) := by
  unfold pos
  refine Prod.ext ?_ rfl
  refine eq_mkR rfl fun i hi => ?_
  refine (setB_form (h _ (List.getElem_mem hi))).trans ?_
  refine congrArg cs (fl_congr fun x hx => ?_)
  unfold leP
  simp [hi]

theorem pos_len (n : Nat) (le : Nat → Nat → Bool) : (pos n le).1.length = n := mkR_len n _

theorem pos_rows (n : Nat) (le : Nat → Nat → Bool) : ∀ r ∈ (pos n le).1, isSetB (pos n le).1.length r = true := by
  intro r hr
  rw [pos_len]
  obtain ⟨i, _, e⟩ := mkR_mem.1 hr
  exact e ▸ fl_setB _ _

theorem leP_pos {n : Nat} {le : Nat → Nat → Bool} {x y : Nat} (hx : x < n) (hy : y < n) : leP (pos n le) x y = le x y := by
  unfold leP pos
  simp only [List.getD_eq_getElem?_getD, get_mkR hy, Option.getD_some, cs_mem, fl_mem, hx, true_and, Bool.decide_eq_true]

theorem Ord.congr {n : Nat} {le le' : Nat → Nat → Bool} (e : ∀ x y, x < n → y < n → le x y = le' x y) (h : Ord n le) : Ord n le' where
  refl x hx := by rw [← e x x hx hx]; exact h.refl x hx
  anti x y hx hy hxy h1 := by rw [← e y x hy hx]; rw [← e x y hx hy] at h1; exact h.anti x y hx hy hxy h1
  trans x y z hx hy hz h1 h2 := by
    rw [← e x z hx hz]; rw [← e x y hx hy] at h1; rw [← e y z hy hz] at h2
    exact h.trans x y z hx hy hz h1 h2

theorem good_pos {n : Nat} {le : Nat → Nat → Bool} : Good (pos n le) ↔ n ≤ 10 ∧ Ord n le := by
  have e : ∀ x y, x < n → y < n → leP (pos n le) x y = le x y := fun x y hx hy => leP_pos hx hy
  constructor
  · intro h
    have h1 := h.len; have h2 := h.ord
    rw [pos_len] at h1 h2
    exact ⟨h1, h2.congr e⟩
  · intro h
    refine ⟨by rw [pos_len]; exact h.1, pos_rows n le, ?_⟩
    rw [pos_len]
    exact h.2.congr fun x y hx hy => (e x y hx hy).symm

theorem Good.form {p : PT} (h : Good p) : p = pos p.1.length (leP p) := pos_form h.rows

theorem newOrder_eq {n : Nat} (h : n ≤ 4294967296) : zz37 big (n : Int) = some (mkT n fun _ _ => false, ()) := by
  unfold zz37 zz37_s
  rw [mkI_mkR h, Option.bind_some, Option.bind_some, cdt (by omega), mkR_len]
  refine zz37_h3 n (fun i o => o = mkR n fun x => if x < i then mkR n fun _ => false else []) (by omega) ?_ ?_ 0 (by omega) _ (by simp)
  · intro rc i o hi hv ih
    unfold zz37_b3
    rw [cdt (by omega), mkI_mkR h, Option.bind_some, Option.bind_some, cdt (by omega), hv, atI_mkR hi, Option.bind_some, Int.toNat_natCast, get_mkR hi, Option.bind_some, wr1 (by omega)]
    refine ih _ ?_
    rw [mkR_set]
    refine mkR_congr fun x hx => ?_
    by_cases h1 : x = i
    · rw [if_pos h1, if_pos (by omega)]
    · rw [if_neg h1]
      by_cases h2 : x < i
      · rw [if_pos h2, if_pos (by omega)]
      · rw [if_neg h2, if_neg (by omega)]
  · intro rc o hv
    unfold zz37_b3
    rw [cdf (by omega), hv, zz37_a3]
    congr 2
    exact mkR_congr fun x hx => by rw [if_pos hx]

theorem isOrder_eq {n : Nat} {le : Nat → Nat → Bool} (hn : n ≤ 4294967296) : zz40 big (mkT n le) = some (tv (Ord n le), ()) := by
  unfold zz40 zz40_s
  rw [mkR_len]
  refine zz40_h2 n (fun i => ∀ x, x < i → le x x = true ∧ (∀ y, y < n → (x ≠ y → le x y = true → le y x = false) ∧ ∀ z, z < n → le x y = true → le y z = true → le x z = true)) (by omega) ?_ ?_ 0 (by omega) (by intro x hx; omega)
  · intro rc i hi hv ih
    unfold zz40_b2
    rw [cdt (by omega), atI_mkR hi, Option.bind_some, atI_mkR hi, Option.bind_some, mkR_len]
    cases h0 : le i i with
    | false =>
      rw [tv_f fun h => by rw [h.refl i hi] at h0; cases h0]
      rfl
    | true =>
      rw [Bool.not_true, cond_false]
      refine zz40_h7 n (fun j => ∀ y, y < j → (i ≠ y → le i y = true → le y i = false) ∧ ∀ z, z < n → le i y = true → le y z = true → le i z = true) (by omega) ?_ ?_ 0 (by omega) (by intro x hx; omega)
      · intro rc2 j hj hv2 ih2
        have inn : (i ≠ j → le i j = true → le j i = false) → zz40_F12 big rc2 (zz40_a7 rc) (mkT n le) (i : Int) (j : Int) (n : Int) (i : Int) (n : Int) (j : Int) (n : Int) ((0 : Nat) : Int) = some (tv (Ord n le), ()) := by
          intro hij
          refine zz40_h12 n (fun k => ∀ z, z < k → le i j = true → le j z = true → le i z = true) (by omega) ?_ ?_ 0 (by omega) (by intro x hx; omega)
          · intro rc3 k hk hv3 ih3
            unfold zz40_b12
            simp only [cdt (show (k : Int) < (n : Int) by omega), atI_mkR hi, atI_mkR hj, atI_mkR hk, Option.bind_some, wr1 (show k ≤ 4611686018427387904 by omega)]
            cases h1 : le i j with
            | false => exact ih3 (all_lt_succ.2 ⟨hv3, by intro h; rw [h1] at h; cases h⟩)
            | true =>
              cases h2 : le j k with
              | false => exact ih3 (all_lt_succ.2 ⟨hv3, by intro _ h; rw [h2] at h; cases h⟩)
              | true =>
                cases h3 : le i k with
                | false =>
                  rw [tv_f fun h => by rw [h.trans i j k hi hj hk h1 h2] at h3; cases h3]
                  rfl
                | true => exact ih3 (all_lt_succ.2 ⟨hv3, fun _ _ => h3⟩)
          · intro rc3 hv3
            unfold zz40_b12
            rw [cdf (by omega), zz40_a12, wr1 (by omega)]
            exact ih2 (all_lt_succ.2 ⟨hv2, hij, hv3⟩)
        unfold zz40_b7
        rw [cdt (by omega), atI_mkR hi, Option.bind_some, atI_mkR hj, Option.bind_some, atI_mkR hj, Option.bind_some, atI_mkR hi, Option.bind_some, mkR_len]
        by_cases hij : i = j
        · rw [cdf (by omega)]
          exact inn fun h => absurd hij h
        · rw [cdt (by omega)]
          cases h1 : le i j with
          | false => exact inn fun _ h => by rw [h1] at h; cases h
          | true =>
            cases h2 : le j i with
            | false => exact inn fun _ _ => h2
            | true =>
              rw [tv_f fun h => by rw [h.anti i j hi hj hij h1] at h2; cases h2]
              rfl
      · intro rc2 hv2
        unfold zz40_b7
        rw [cdf (by omega), zz40_a7, wr1 (by omega)]
        exact ih (all_lt_succ.2 ⟨hv, h0, hv2⟩)
  · intro rc hv
    unfold zz40_b2
    rw [cdf (by omega), zz40_a2, tv_t]
    exact ⟨fun x hx => (hv x hx).1, fun x y hx hy => ((hv x hx).2 y hy).1, fun x y z hx hy hz => ((hv x hx).2 y hy).2 z hz⟩

theorem mkT_set {α : Type} {n : Nat} {f : Nat → Nat → α} {x y : Nat} {v : α} : (mkT n f).set x ((mkR n (f x)).set y v) = mkT n fun a b => if a = x ∧ b = y then v else f a b := by
  rw [mkR_set]
  refine mkR_congr fun a ha => ?_
  by_cases h : a = x
  · subst h
    rw [if_pos rfl, mkR_set]
    exact mkR_congr fun b hb => by simp
  · rw [if_neg h]
    exact mkR_congr fun b hb => by simp [h]

theorem orderOf_eq (p : PT) (hl : p.1.length ≤ 10) (hx : ∀ r ∈ p.1, r.length ≤ 4294967296) :
    zz41 big p = some (@ite _ (∀ r ∈ p.1, isSetB p.1.length r = true) (Classical.propDecidable _) (mkT p.1.length (leP p), tv (Ord p.1.length (leP p)), ()) ([], false, ()), ()) := by
  unfold zz41 zz41_s
  generalize hn : p.1.length = n
  rw [cdf (by omega), newOrder_eq (by omega), Option.bind_some]
  refine zz41_h6 n (fun i o => (∀ j, j < i → ∀ (h : j < p.1.length), isSetB n p.1[j] = true) ∧ o = mkT n fun a b => decide (b < i) && leP p a b) (by omega) ?_ ?_ 0 (by omega) _ ⟨by intro j hj; omega, mkT_congr fun a b _ _ => by simp⟩
  · intro rc i o hi hv ih
    obtain ⟨hv1, hv2⟩ := hv
    unfold zz41_b6
    have hip : i < p.1.length := by omega
    have hrow := hx _ (List.getElem_mem hip)
    rw [cdt (by omega), atI_lt _ i hip, Option.bind_some, rises_eq _ (by omega), Option.bind_some]
    cases h1 : risingB p.1[i] with
    | false =>
      rw [if_neg fun h => by have := h _ (List.getElem_mem hip); unfold isSetB at this; rw [h1, Bool.and_false] at this; cases this]
      rfl
    | true =>
      rw [Bool.not_true, cond_false, inSize_eq n _ (by omega), Option.bind_some]
      cases h2 : p.1[i].all (inB n) with
      | false =>
        rw [if_neg fun h => by have := h _ (List.getElem_mem hip); unfold isSetB at this; rw [h2, Bool.false_and] at this; cases this]
        rfl
      | true =>
        rw [Bool.not_true, cond_false]
        have hset : isSetB n p.1[i] = true := by unfold isSetB; rw [h1, h2]; rfl
        have hle : ∀ a, leP p a i = decide ((a : Int) ∈ p.1[i]) := by intro a; unfold leP; simp [hip]
        have hform := setB_form hset
        have hS : ∀ a, a ∈ fl n (fun x => decide ((x : Int) ∈ p.1[i])) ↔ a < n ∧ leP p a i = true := by
          intro a; rw [fl_mem, hle]
        generalize fl n (fun x => decide ((x : Int) ∈ p.1[i])) = S at hform hS
        rw [hform, cs_len]
        refine zz41_h11 S.length (fun k o => o = mkT n fun a b => if b < i then leP p a b else decide (b = i ∧ a ∈ S.take k)) ?_ ?_ ?_ 0 (by omega) _ ?_
        · have := congrArg List.length hform
          rw [cs_len] at this
          have := hx _ (List.getElem_mem hip)
          omega
        · intro rc2 k o2 hk hv3 ih2
          have hkn : S[k] < n := ((hS _).1 (List.getElem_mem hk)).1
          have hkS : S.length ≤ 4294967296 := by have := congrArg List.length hform; rw [cs_len] at this; omega
          unfold zz41_b11
          simp only [cdt (show (k : Int) < (S.length : Int) by omega), atI_cs hk, Option.bind_some, hv3, atI_mkR hkn, Int.toNat_natCast, get_mkR hkn, atI_mkR hi, get_mkR hi, wr1 (show k ≤ 4611686018427387904 by omega)]
          refine ih2 _ ?_
          rw [mkT_set]
          refine mkT_congr fun a b _ _ => ?_
          by_cases hb : b < i
          · rw [if_pos hb, if_pos hb, if_neg (by omega)]
          · rw [if_neg hb, if_neg hb]
            simp only [mem_take_succ hk]
            by_cases hbi : b = i
            · by_cases ha : a = S[k]
              · simp [hbi, ha]
              · simp [hbi, ha]
            · simp [hbi]
        · intro rc2 o2 hv3
          unfold zz41_b11
          rw [cdf (by omega), zz41_a11, wr1 (by omega)]
          refine ih _ ⟨fun j hj hjp => ?_, ?_⟩
          · rcases Nat.lt_or_ge j i with h | h
            · exact hv1 j h hjp
            · have : j = i := by omega
              subst this; exact hset
          · rw [hv3]
            refine mkT_congr fun a b ha _ => ?_
            by_cases hb : b < i
            · rw [if_pos hb]; simp [show b < i + 1 by omega]
            · rw [if_neg hb, List.take_length]
              by_cases hbi : b = i
              · subst hbi
                rw [decide_eq_true (show b < b + 1 by omega), Bool.true_and]
                cases h : leP p a b with
                | true => exact decide_eq_true ⟨rfl, (hS a).2 ⟨ha, h⟩⟩
                | false => exact decide_eq_false fun h3 => by rw [((hS a).1 h3.2).2] at h; cases h
              · simp [hbi, show ¬ b < i + 1 by omega]
        · rw [hv2]
          refine mkT_congr fun a b _ _ => ?_
          by_cases hb : b < i
          · simp [hb]
          · simp [hb]
  · intro rc o hv
    obtain ⟨hv1, hv2⟩ := hv
    unfold zz41_b6
    have ho : o = mkT n (leP p) := by rw [hv2]; exact mkT_congr fun a b _ hb => by simp [hb]
    rw [cdf (by omega), zz41_a6, ho, isOrder_eq (by omega), Option.bind_some, if_pos]
    intro r hr
    obtain ⟨j, hj, e⟩ := List.getElem_of_mem hr
    exact e ▸ hv1 j (by omega) hj

theorem orderOf_bad (p : PT) (hl : ¬ p.1.length ≤ 10) : zz41 big p = some (([], false, ()), ()) := by
  unfold zz41 zz41_s
  rw [cdt (by omega)]

theorem orderOf_no (p : PT) (hx : ∀ r ∈ p.1, r.length ≤ 4294967296) (h : ¬ Good p) : ∃ T, zz41 big p = some ((T, false, ()), ()) := by
  by_cases hl : p.1.length ≤ 10
  · rw [orderOf_eq p hl hx]
    by_cases hr : ∀ r ∈ p.1, isSetB p.1.length r = true
    · rw [if_pos hr, tv_f fun ho => h ⟨hl, hr, ho⟩]
      exact ⟨_, rfl⟩
    · rw [if_neg hr]
      exact ⟨_, rfl⟩
  · exact ⟨_, orderOf_bad p hl⟩

theorem orderOf_pos {n : Nat} {le : Nat → Nat → Bool} (hn : n ≤ 10) (ho : Ord n le) : zz41 big (pos n le) = some ((mkT n le, true, ()), ()) := by
  have e : ∀ x y, x < n → y < n → leP (pos n le) x y = le x y := fun x y hx hy => leP_pos hx hy
  rw [orderOf_eq _ (by rw [pos_len]; exact hn) ?_, if_pos (pos_rows n le), pos_len, tv_t (ho.congr fun x y hx hy => (e x y hx hy).symm)]
  · congr 3
    exact mkT_congr fun x y hx hy => e x y hx hy
  · intro r hr
    obtain ⟨i, _, h⟩ := mkR_mem.1 hr
    rw [← h, cs_len]
    have := fl_len n fun x => le x i
    omega

theorem atI_pos {n x : Nat} {le : Nat → Nat → Bool} (hx : x < n) : atI (pos n le).1 (x : Int) = some (cs (fl n fun a => le a x)) := atI_mkR hx

theorem l23Leq_pos {n x y : Nat} {le : Nat → Nat → Bool} (hn : n ≤ 4294967296) (hx : x < n) (hy : y < n) : zz11 (pos n le) (x : Int) (y : Int) = some (le x y, ()) := by
  unfold zz11 zz11_s
  have := fl_len n fun a => le a y
  rw [atI_pos hy, Option.bind_some, l1Has_cs _ _ (by omega), Option.bind_some]
  congr 2
  rw [Bool.eq_iff_iff, decide_eq_true_eq, fl_mem]
  simp [hx]

theorem within_fl {n : Nat} {P Q : Nat → Bool} (hn : n ≤ 4294967296) : zz9 big (cs (fl n P)) (cs (fl n Q)) = some (tv (∀ x, x < n → P x = true → Q x = true), ()) := by
  have h1 := fl_len n P
  have h2 := fl_len n Q
  rw [l5Within_eq _ _ (by rw [cs_len]; omega) (by rw [cs_len]; omega)]
  congr 2
  refine tv_congr ⟨fun h x hx hp => ?_, fun h x hx => ?_⟩
  · exact (fl_mem.1 (cs_mem.1 (h _ (cs_mem.2 (fl_mem.2 ⟨hx, hp⟩))))).2
  · unfold cs at hx
    obtain ⟨y, hy, e⟩ := List.mem_map.1 hx
    have := fl_mem.1 hy
    rw [← e]
    exact cs_mem.2 (fl_mem.2 ⟨this.1, h y this.1 this.2⟩)

theorem specPoset_eq (p : PT) (hx : ∀ r ∈ p.1, r.length ≤ 4294967296) : zz10 big p = some (tv (Good p), ()) := by
  unfold zz10 zz10_s
  by_cases hl : p.1.length ≤ 10
  · generalize hn : p.1.length = n
    rw [cdf (by omega)]
    refine zz10_h5 n (fun i => ∀ j, j < i → ∀ (h : j < p.1.length), isSetB n p.1[j] = true ∧ leP p j j = true) (by omega) ?_ ?_ 0 (by omega) (by intro j hj; omega)
    · intro rc i hi hv ih
      have hip : i < p.1.length := by omega
      have hrow := hx _ (List.getElem_mem hip)
      have hle : ∀ a, leP p a i = decide ((a : Int) ∈ p.1[i]) := by intro a; unfold leP; simp [hip]
      unfold zz10_b5
      rw [cdt (by omega), atI_lt _ i hip, Option.bind_some, wr (by omega) (by omega), specRising_eq n _ (by omega) (by omega), Option.bind_some]
      cases h1 : isSetB n p.1[i] with
      | false =>
        rw [tv_f fun h => by have := h.rows _ (List.getElem_mem hip); rw [hn, h1] at this; cases this]
        rfl
      | true =>
        rw [Bool.not_true, cond_false, Option.bind_some, l1Has_eq _ _ hrow, Option.bind_some, ← hle]
        cases h2 : leP p i i with
        | false =>
          rw [tv_f fun h => by have := h.ord.refl i hip; rw [h2] at this; cases this]
          rfl
        | true =>
          rw [Bool.not_true, cond_false, wr1 (by omega)]
          refine ih fun j hj hjp => ?_
          rcases Nat.lt_or_ge j i with h | h
          · exact hv j h hjp
          · have : j = i := by omega
            subst this; exact ⟨h1, h2⟩
    · intro rc hv
      unfold zz10_b5
      rw [cdf (by omega), zz10_a5]
      have hrows : ∀ r ∈ p.1, isSetB p.1.length r = true := by
        intro r hr
        obtain ⟨j, hj, e⟩ := List.getElem_of_mem hr
        rw [hn]
        exact e ▸ (hv j (by omega) hj).1
      have hform := pos_form hrows
      have hrefl : ∀ x, x < n → leP p x x = true := fun x hxn => (hv x hxn (by omega)).2
      generalize leP p = le at hform hrefl
      rw [hn] at hform
      subst hform
      rw [tv_congr good_pos]
      refine zz10_h10 n (fun i => ∀ x, x < i → ∀ y, y < n → le y x = true → (y ≠ x → le x y = false) ∧ ∀ z, z < n → le z y = true → le z x = true) (by omega) ?_ ?_ 0 (by omega) (by intro j hj; omega)
      · intro rc2 i hi hv2 ih2
        unfold zz10_b10
        rw [cdt (by omega)]
        have hS : ∀ a, a ∈ fl n (fun a => le a i) ↔ a < n ∧ le a i = true := fun a => fl_mem
        have hSl := fl_len n fun a => le a i
        refine zz10_h13 (fl n fun a => le a i).length (fun k => ∀ y ∈ (fl n fun a => le a i).take k, (y ≠ i → le i y = false) ∧ ∀ z, z < n → le z y = true → le z i = true) (by omega) ?_ ?_ 0 (by omega) (by simp)
        · intro rc3 k hk hv3 ih3
          have hk2 := (hS _).1 (List.getElem_mem hk)
          have hk3 := atI_cs hk
          have hk4 : ∀ {P : Nat → Prop}, (∀ y ∈ (fl n fun a => le a i).take (k + 1), P y) ↔ _ := all_take_succ hk
          unfold zz10_b13
          generalize (fl n fun a => le a i)[k] = y at hk2 hk3 hk4
          have hkl := fl_len n fun a => le a y
          simp only [atI_pos hi, Option.bind_some, cs_len, cdt (show (k : Int) < ((fl n fun a => le a i).length : Int) by omega), hk3, atI_pos hk2.1, l1Has_cs (fl n fun a => le a y) i (by omega), within_fl (P := fun a => le a y) (Q := fun a => le a i) (show n ≤ 4294967296 by omega), wr1 (show k ≤ 4611686018427387904 by omega)]
          have e1 : decide (i ∈ fl n fun a => le a y) = le i y := by
            rw [Bool.eq_iff_iff, decide_eq_true_eq, fl_mem]; simp [hi]
          rw [e1]
          have key : (y ≠ i → le i y = false) → cond (!tv (∀ x, x < n → le x y = true → le x i = true)) (some (false, ())) (rc3 (pos n le) (n : Int) (i : Int) ((k + 1 : Nat) : Int)) = some (tv (n ≤ 10 ∧ Ord n le), ()) := by
            intro h1
            by_cases h2 : ∀ x, x < n → le x y = true → le x i = true
            · rw [tv_t h2]
              exact ih3 (hk4.2 ⟨hv3, h1, h2⟩)
            · rw [tv_f h2, tv_f fun h => h2 fun x hxn h3 => h.2.trans _ _ _ hxn hk2.1 hi h3 hk2.2]
              rfl
          by_cases h1 : y = i
          · rw [cdf (by omega)]
            exact key fun h => absurd h1 h
          · rw [cdt (by omega)]
            cases h2 : le i y with
            | true =>
              rw [tv_f (P := n ≤ 10 ∧ Ord n le) fun h => by rw [h.2.anti _ _ hk2.1 hi h1 hk2.2] at h2; cases h2]
              rfl
            | false =>
              rw [cond_false]
              exact key fun _ => h2
        · intro rc3 hv3
          rw [List.take_length] at hv3
          unfold zz10_b13
          rw [atI_pos hi, Option.bind_some, cs_len, cdf (by omega), zz10_a13, wr1 (by omega)]
          exact ih2 (all_lt_succ.2 ⟨hv2, fun y hy hyi => hv3 y ((hS y).2 ⟨hy, hyi⟩)⟩)
      · intro rc2 hv2
        unfold zz10_b10
        rw [cdf (by omega), zz10_a10, tv_t]
        refine ⟨by rw [pos_len] at hl; exact hl, fun x hx => hrefl x hx, fun x y hx hy hxy h => ((hv2 y hy x hx h).1 hxy), fun x y z hx hy hz h1 h2 => (hv2 z hz y hy h2).2 x hx h1⟩
  · rw [cdt (by omega), tv_f fun h => hl h.len]

abbrev du (le : Nat → Nat → Bool) : Nat → Nat → Bool := fun x y => le y x

def low (n : Nat) (le : Nat → Nat → Bool) (S : List Nat) : List Nat := fl n fun z => S.all fun s => le z s

def grt (le : Nat → Nat → Bool) (L : List Nat) : Int := match L.find? fun x => L.all fun y => le y x with
  | some x => (x : Int)
  | none => -1

def bnd (n : Nat) (le : Nat → Nat → Bool) (S : List Nat) : Int := grt le (low n le S)

structure IsGlb (n : Nat) (le : Nat → Nat → Bool) (S : List Nat) (m : Nat) : Prop where
  lt : m < n
  lo : ∀ s ∈ S, le m s = true
  gr : ∀ z, z < n → (∀ s ∈ S, le z s = true) → le z m = true

theorem low_mem {n : Nat} {le : Nat → Nat → Bool} {S : List Nat} {z : Nat} : z ∈ low n le S ↔ z < n ∧ ∀ s ∈ S, le z s = true := by
  unfold low
  rw [fl_mem, List.all_eq_true]

theorem glb_of_bnd {n : Nat} {le : Nat → Nat → Bool} {S : List Nat} (h : 0 ≤ bnd n le S) : IsGlb n le S (bnd n le S).toNat := by
  unfold bnd grt at *
  cases hf : (low n le S).find? fun x => (low n le S).all fun y => le y x with
  | none => rw [hf] at h; exact absurd h (by decide)
  | some x =>
    have h1 := List.find?_some hf
    have h2 := low_mem.1 (List.mem_of_find?_eq_some hf)
    simp only [Int.toNat_natCast]
    exact ⟨h2.1, h2.2, fun z hz hs => List.all_eq_true.1 h1 z (low_mem.2 ⟨hz, hs⟩)⟩

theorem glb_unique {n : Nat} {le : Nat → Nat → Bool} (ho : Ord n le) {S : List Nat} {m k : Nat} (h : IsGlb n le S m) (h2 : IsGlb n le S k) : m = k := by
  by_cases e : m = k
  · exact e
  · have h3 := h.gr k h2.lt h2.lo
    have h4 := h2.gr m h.lt h.lo
    have := ho.anti m k h.lt h2.lt e h4
    rw [this] at h3; cases h3

theorem bnd_of_glb {n : Nat} {le : Nat → Nat → Bool} (ho : Ord n le) {S : List Nat} {m : Nat} (h : IsGlb n le S m) : bnd n le S = (m : Int) := by
  have h0 : 0 ≤ bnd n le S := by
    unfold bnd grt
    cases hf : (low n le S).find? fun x => (low n le S).all fun y => le y x with
    | none =>
      have := List.find?_eq_none.1 hf m (low_mem.2 ⟨h.lt, h.lo⟩)
      exact absurd (List.all_eq_true.2 fun y hy => h.gr y (low_mem.1 hy).1 (low_mem.1 hy).2) this
    | some x => simp
  have := glb_unique ho (glb_of_bnd h0) h
  omega

theorem greatest_eq {n : Nat} {le : Nat → Nat → Bool} {L : List Nat} (hL : ∀ x ∈ L, x < n) (hl : L.length ≤ 4294967296) : zz42 big (mkT n le) (cs L) = some (grt le L, ()) := by
  unfold zz42 zz42_s
  rw [cs_len]
  refine zz42_h2 L.length (fun i => ∀ x ∈ L.take i, ¬ (L.all fun y => le y x) = true) (by omega) ?_ ?_ 0 (by omega) (by simp)
  · intro rc i hi hv ih
    have hx := hL _ (List.getElem_mem hi)
    have hh := @find_hit _ L (fun x => L.all fun y => le y x) i hi hv
    have hn := fun h => ih ((all_take_succ hi).2 ⟨hv, h⟩)
    unfold zz42_b2
    rw [cdt (by omega), atI_cs hi, Option.bind_some, cs_len]
    generalize L[i] = x at hx hh hn
    refine zz42_h6 L.length (fun k b => b = (L.take k).all fun y => le y x) (by omega) ?_ ?_ 0 (by omega) _ rfl
    · intro rc2 k b hk hb ih2
      have hy := hL _ (List.getElem_mem hk)
      have ht := @all_take _ L k hk fun y => le y x
      have ha := atI_cs hk
      unfold zz42_b6
      rw [cdt (by omega), ha, Option.bind_some, wr1 (by omega)]
      generalize L[k] = y at hy ht
      cases b with
      | false => exact ih2 _ (by rw [ht, ← hb]; rfl)
      | true =>
        rw [cond_true, atI_mkR hy, Option.bind_some, atI_mkR hx, Option.bind_some]
        exact ih2 _ (by rw [ht, ← hb]; rfl)
    · intro rc2 b hb
      rw [List.take_length] at hb
      unfold zz42_b6
      rw [cdf (by omega), zz42_a6, hb]
      cases h : L.all fun y => le y x with
      | true =>
        rw [cond_true]
        unfold grt
        rw [hh h]
      | false =>
        rw [cond_false, wr1 (by omega)]
        exact hn (by rw [h]; simp)
  · intro rc hv
    rw [List.take_length] at hv
    unfold zz42_b2
    rw [cdf (by omega), zz42_a2]
    unfold grt
    rw [List.find?_eq_none.2 hv]

theorem low2 {n : Nat} {le : Nat → Nat → Bool} {x y : Nat} : low n le [x, y] = fl n fun z => le z x && le z y := by
  unfold low
  congr 1; funext z; simp

theorem those_meet {n : Nat} {le : Nat → Nat → Bool} (hn : n ≤ 1048576) {x y : Nat} (hx : x < n) (hy : y < n) : zz44 big (mkT n le) (mkT n le, (x : Int), (y : Int), ()) = some (cs (low n le [x, y]), ()) := by
  unfold zz44 zz44_s
  rw [mkR_len, low2]
  refine zz44_h3 n (fun i l => l = cs (fl i fun z => le z x && le z y)) (by omega) ?_ ?_ 0 (by omega) _ rfl
  · intro rc i l hi hv ih
    have hl := fl_len i fun z => le z x && le z y
    unfold zz44_b3 zz43 zz43_s
    simp only [cdt (show (i : Int) < (n : Int) by omega), atI_mkR hi, atI_mkR hx, atI_mkR hy, Option.bind_some, wr1 (show i ≤ 4611686018427387904 by omega)]
    cases h1 : le i x with
    | false => exact ih _ (by rw [hv]; exact fl_f (P := fun z => le z x && le z y) (by simp [h1]))
    | true =>
      simp only [cond_true, Option.bind_some]
      cases h2 : le i y with
      | false => exact ih _ (by rw [hv]; exact fl_f (P := fun z => le z x && le z y) (by simp [h1, h2]))
      | true =>
        rw [cond_true, app1 (by rw [hv, cs_len]; omega), Option.bind_some]
        exact ih _ (by rw [hv]; exact fl_t (P := fun z => le z x && le z y) (by simp [h1, h2]))
  · intro rc l hv
    unfold zz44_b3
    rw [cdf (by omega), zz44_a3, hv]

theorem low_lt {n : Nat} {le : Nat → Nat → Bool} {S : List Nat} : ∀ x ∈ low n le S, x < n := fun x hx => (low_mem.1 hx).1

theorem low_len {n : Nat} {le : Nat → Nat → Bool} {S : List Nat} : (low n le S).length ≤ n := fl_len _ _

theorem meetTable_eq {n : Nat} {le : Nat → Nat → Bool} (hn : n ≤ 1048576) : zz45 big (mkT n le) = some (@ite _ (∀ x y, x < n → y < n → 0 ≤ bnd n le [x, y]) (Classical.propDecidable _) (mkT n fun x y => bnd n le [x, y], true, ()) ([], false, ()), ()) := by
  unfold zz45 zz45_s
  rw [mkR_len]
  refine zz45_h3 n (fun i t => t = (mkR i fun x => mkR n fun y => bnd n le [x, y]) ∧ ∀ x, x < i → ∀ y, y < n → 0 ≤ bnd n le [x, y]) (by omega) ?_ ?_ 0 (by omega) _ ⟨rfl, by intro x hx; omega⟩
  · intro rc i t hi hv ih
    unfold zz45_b3
    rw [cdt (by omega), mkR_len]
    refine zz45_h7 n (fun j r => r = (mkR j fun y => bnd n le [i, y]) ∧ ∀ y, y < j → 0 ≤ bnd n le [i, y]) (by omega) ?_ ?_ 0 (by omega) _ ⟨rfl, by intro x hx; omega⟩
    · intro rc2 j r hj hr ih2
      unfold zz45_b7
      rw [cdt (by omega), those_meet hn hi hj, Option.bind_some, greatest_eq low_lt (by have := @low_len n le [i, j]; omega), Option.bind_some]
      show cond (decide (bnd n le [i, j] < 0)) _ ((appI r [bnd n le [i, j]]).bind _) = _
      by_cases h : 0 ≤ bnd n le [i, j]
      · rw [cdf (by omega), app1 (by rw [hr.1, mkR_len]; omega), Option.bind_some, wr1 (by omega)]
        exact ih2 _ ⟨by rw [hr.1]; exact (mkR_succ j _).symm, all_lt_succ.2 ⟨hr.2, h⟩⟩
      · rw [cdt (by omega), if_neg fun h2 => h (h2 i j hi hj)]
    · intro rc2 r hr
      unfold zz45_b7
      rw [cdf (by omega), zz45_a7, app1 (by rw [hv.1, mkR_len]; omega), Option.bind_some, wr1 (by omega)]
      refine ih _ ⟨?_, all_lt_succ.2 ⟨hv.2, hr.2⟩⟩
      rw [hv.1, hr.1]
      exact (mkR_succ i fun x => mkR n fun y => bnd n le [x, y]).symm
  · intro rc t hv
    unfold zz45_b3
    rw [cdf (by omega), zz45_a3, if_pos fun x y hx hy => hv.2 x hx y hy, hv.1]

theorem dual_eq {n : Nat} {le : Nat → Nat → Bool} (hn : n ≤ 1048576) : zz46 big (mkT n le) = some (mkT n (du le), ()) := by
  unfold zz46 zz46_s
  rw [mkR_len, newOrder_eq (by omega), Option.bind_some]
  refine zz46_h3 n (fun i d => d = mkT n fun a b => decide (a < i) && le b a) (by omega) ?_ ?_ 0 (by omega) _ (mkT_congr fun a b _ _ => by simp)
  · intro rc i d hi hv ih
    unfold zz46_b3
    rw [cdt (by omega), mkR_len]
    refine zz46_h6 n (fun j d => d = mkT n fun a b => (decide (a < i) || decide (a = i) && decide (b < j)) && le b a) (by omega) ?_ ?_ 0 (by omega) _ (by rw [hv]; exact mkT_congr fun a b _ _ => by simp)
    · intro rc2 j d2 hj hv2 ih2
      unfold zz46_b6
      generalize hf : (fun a b => (decide (a < i) || decide (a = i) && decide (b < j)) && le b a) = f at hv2
      simp only [cdt (show (j : Int) < (n : Int) by omega), hv2, atI_mkR hi, get_mkR hi, Option.bind_some, atI_mkR hj, get_mkR hj, Int.toNat_natCast, wr1 (show j ≤ 4611686018427387904 by omega)]
      refine ih2 _ ?_
      rw [mkT_set, ← hf]
      refine mkT_congr fun a b _ _ => ?_
      by_cases h1 : a = i
      · subst h1
        by_cases h2 : b = j
        · subst h2; simp
        · rw [if_neg fun h => h2 h.2, show decide (b < j + 1) = decide (b < j) from decide_eq_decide.2 (by omega)]
      · rw [if_neg fun h => h1 h.1]; simp [h1]
    · intro rc2 d2 hv2
      unfold zz46_b6
      rw [cdf (by omega), zz46_a6, wr1 (by omega)]
      refine ih _ ?_
      rw [hv2]
      refine mkT_congr fun a b _ hb => ?_
      congr 1
      rw [decide_eq_true hb, Bool.and_true, ← Bool.decide_or]
      exact decide_eq_decide.2 (by omega)
  · intro rc d hv
    unfold zz46_b3
    rw [cdf (by omega), zz46_a3, hv]
    congr 2
    exact mkT_congr fun a b ha _ => by simp [ha]

structure Lat (n : Nat) (le : Nat → Nat → Bool) : Prop where
  ne : 0 < n
  meet : ∀ x y, x < n → y < n → 0 ≤ bnd n le [x, y]
  join : ∀ x y, x < n → y < n → 0 ≤ bnd n (du le) [x, y]

def mt (n : Nat) (le : Nat → Nat → Bool) (x y : Nat) : Nat := (bnd n le [x, y]).toNat

def gb (n : Nat) (le : Nat → Nat → Bool) (S : List Nat) : Nat := (bnd n le S).toNat

def lat (n : Nat) (le : Nat → Nat → Bool) : List (List Bool) × List (List Int) × List (List Int) × Unit :=
  (mkT n le, mkT n (fun x y => ((mt n le x y : Nat) : Int)), mkT n (fun x y => ((mt n (du le) x y : Nat) : Int)), ())

structure LatP (n : Nat) (le : Nat → Nat → Bool) : Prop where
  le10 : n ≤ 10
  ord : Ord n le
  lat : Lat n le

theorem latticeOf_pos {n : Nat} {le : Nat → Nat → Bool} (h : LatP n le) : zz47 (pos n le) = some ((some (lat n le), true, ()), ()) := by
  have h10 := h.le10
  have h0 := h.lat.ne
  unfold zz47 zz47_s
  simp only [orderOf_pos h.le10 h.ord, Option.bind_some, Bool.not_true, cond_false, mkR_len, cdf (show ¬ ((n : Int) = 0) by omega), meetTable_eq (le := le) (show n ≤ 1048576 by omega), dual_eq (le := le) (show n ≤ 1048576 by omega), meetTable_eq (le := du le) (show n ≤ 1048576 by omega)]
  rw [if_pos h.lat.meet, if_pos h.lat.join]
  simp only [cond_true]
  have e1 : (mkT n fun x y => bnd n le [x, y]) = mkT n fun x y => ((mt n le x y : Nat) : Int) := mkT_congr fun x y hx hy => by
    have := h.lat.meet x y hx hy
    unfold mt; omega
  have e2 : (mkT n fun x y => bnd n (du le) [x, y]) = mkT n fun x y => ((mt n (du le) x y : Nat) : Int) := mkT_congr fun x y hx hy => by
    have := h.lat.join x y hx hy
    unfold mt; omega
  rw [e1, e2]
  rfl

theorem latticeOf_no {p : PT} (hx : ∀ r ∈ p.1, r.length ≤ 4294967296) (h : ¬ (Good p ∧ Lat p.1.length (leP p))) : ∃ l, zz47 p = some ((l, false, ()), ()) := by
  by_cases hg : Good p
  · have hf := hg.form
    have ho := hg.ord
    have h10 := hg.len
    replace h : ¬ Lat p.1.length (leP p) := fun hl => h ⟨hg, hl⟩
    generalize p.1.length = n at *
    generalize leP p = le at *
    subst hf
    unfold zz47 zz47_s
    simp only [orderOf_pos h10 ho, Option.bind_some, Bool.not_true, cond_false, mkR_len, meetTable_eq (le := le) (show n ≤ 1048576 by omega), dual_eq (le := le) (show n ≤ 1048576 by omega), meetTable_eq (le := du le) (show n ≤ 1048576 by omega)]
    by_cases h0 : n = 0
    · rw [cdt (by omega)]
      exact ⟨_, rfl⟩
    · rw [cdf (by omega)]
      by_cases h1 : ∀ x y, x < n → y < n → 0 ≤ bnd n le [x, y]
      · rw [if_pos h1]
        by_cases h2 : ∀ x y, x < n → y < n → 0 ≤ bnd n (du le) [x, y]
        · exact absurd ⟨by omega, h1, h2⟩ h
        · rw [if_neg h2]
          exact ⟨_, rfl⟩
      · rw [if_neg h1]
        exact ⟨_, rfl⟩
  · obtain ⟨T, hT⟩ := orderOf_no p hx hg
    unfold zz47 zz47_s
    rw [hT, Option.bind_some]
    exact ⟨_, rfl⟩

theorem specDual_pos {n : Nat} {le : Nat → Nat → Bool} (hn : n ≤ 1048576) : zz12 big (pos n le) = some (pos n (du le), ()) := by
  unfold zz12 zz12_s
  refine zz12_h3 n (fun i o => o.1 = mkR i fun y => cs (fl n fun x => le y x)) (by omega) ?_ ?_ 0 (by omega) _ rfl
  · intro rc i o hi hv ih
    unfold zz12_b3
    rw [pos_len, cdt (by omega)]
    refine zz12_h7 n (fun j l => l = cs (fl j fun x => le i x)) (by omega) ?_ ?_ 0 (by omega) _ rfl
    · intro rc2 j l hj hl ih2
      have hlen := fl_len j fun x => le i x
      unfold zz12_b7
      rw [pos_len, cdt (by omega), l23Leq_pos (by omega) hi hj, Option.bind_some, wr1 (by omega)]
      cases h : le i j with
      | true =>
        rw [cond_true, app1 (by rw [hl, cs_len]; omega), Option.bind_some]
        exact ih2 _ (by rw [hl]; exact fl_t (P := fun x => le i x) h)
      | false => exact ih2 _ (by rw [hl]; exact fl_f (P := fun x => le i x) h)
    · intro rc2 l hl
      unfold zz12_b7
      rw [pos_len, cdf (by omega), zz12_a7, app1 (by rw [hv, mkR_len]; omega), Option.bind_some, wr1 (by omega)]
      exact ih _ (by rw [hl]; show o.1 ++ _ = _; rw [hv]; exact (mkR_succ i fun y => cs (fl n fun x => le y x)).symm)
  · intro rc o hv
    unfold zz12_b3
    rw [pos_len, cdf (by omega), zz12_a3]
    unfold pos
    congr 2
    exact Prod.ext hv rfl

theorem specBound_pos {n : Nat} {le : Nat → Nat → Bool} (hn : n ≤ 1048576) {S : List Nat} (hS : ∀ s ∈ S, s < n) (hSl : S.length ≤ 4294967296) : zz13 big (pos n le) (cs S) = some (bnd n le S, ()) := by
  unfold zz13 zz13_s
  refine zz13_h3 n (fun i l => l = cs (fl i fun z => S.all fun s => le z s)) (by omega) ?_ ?_ 0 (by omega) _ rfl
  · intro rc i l hi hv ih
    have hlen := fl_len i fun z => S.all fun s => le z s
    unfold zz13_b3
    rw [pos_len, cdt (by omega)]
    refine zz13_h7 S.length (fun k b => b = (S.take k).all fun s => le i s) (by omega) ?_ ?_ 0 (by omega) _ rfl
    · intro rc2 k b hk hb ih2
      have hs := hS _ (List.getElem_mem hk)
      have ht := @all_take _ S k hk fun s => le i s
      have ha := atI_cs hk
      unfold zz13_b7
      rw [cs_len, cdt (by omega), ha, Option.bind_some, wr1 (by omega)]
      generalize S[k] = s at hs ht
      rw [l23Leq_pos (by omega) hi hs, Option.bind_some]
      cases b with
      | true => exact ih2 _ (by rw [ht, ← hb]; rfl)
      | false => exact ih2 _ (by rw [ht, ← hb]; rfl)
    · intro rc2 b hb
      rw [List.take_length] at hb
      unfold zz13_b7
      rw [cs_len, cdf (by omega), zz13_a7, wr1 (by omega)]
      cases b with
      | true =>
        rw [cond_true, app1 (by rw [hv, cs_len]; omega), Option.bind_some]
        exact ih _ (by rw [hv]; exact fl_t (P := fun z => S.all fun s => le z s) hb.symm)
      | false => exact ih _ (by rw [hv]; exact fl_f (P := fun z => S.all fun s => le z s) hb.symm)
  · intro rc l hv
    unfold zz13_b3
    rw [pos_len, cdf (by omega), zz13_a3]
    replace hv : l = cs (low n le S) := hv
    rw [hv]
    have hll := @low_len n le S
    unfold bnd
    have hlt := @low_lt n le S
    have hfl : low n le S = fl n fun z => S.all fun s => le z s := rfl
    have hw : ∀ x, x < n → zz9 big (cs (low n le S)) (cs (fl n fun a => le a x)) = some ((low n le S).all fun y => le y x, ()) := by
      intro x hx
      rw [hfl, within_fl (by omega), ← hfl]
      congr 2
      exact tv_eq (by rw [List.all_eq_true]; exact ⟨fun h y hy hp => h y (fl_mem.2 ⟨hy, hp⟩), fun h y hy => h y (fl_mem.1 hy).1 (fl_mem.1 hy).2⟩)
    generalize low n le S = L at *
    refine zz13_h13 L.length (fun i => ∀ x ∈ L.take i, ¬ (L.all fun y => le y x) = true) (by omega) ?_ ?_ 0 (by omega) (by simp)
    · intro rc2 i hi hv2 ih2
      have hx := hlt _ (List.getElem_mem hi)
      have hh := @find_hit _ L (fun x => L.all fun y => le y x) i hi hv2
      have hn2 := fun h => ih2 ((all_take_succ hi).2 ⟨hv2, h⟩)
      have ha := atI_cs hi
      have hg := get_cs hi
      unfold zz13_b13
      simp only [cs_len, cdt (show (i : Int) < (L.length : Int) by omega), ha, Option.bind_some, Int.toNat_natCast, hg, wr1 (show i ≤ 4611686018427387904 by omega)]
      generalize L[i] = x at hx hh hn2
      rw [atI_pos hx, Option.bind_some, hw x hx, Option.bind_some]
      cases h : L.all fun y => le y x with
      | true =>
        rw [cond_true]
        unfold grt
        rw [hh h]
      | false =>
        rw [cond_false]
        exact hn2 (by rw [h]; simp)
    · intro rc2 hv2
      rw [List.take_length] at hv2
      unfold zz13_b13
      rw [cs_len, cdf (by omega), zz13_a13]
      unfold grt
      rw [List.find?_eq_none.2 hv2]

theorem bnd_swap {n : Nat} {le : Nat → Nat → Bool} (x y : Nat) : bnd n le [x, y] = bnd n le [y, x] := by
  unfold bnd
  congr 1
  unfold low
  congr 1; funext z; simp [Bool.and_comm]

theorem Ord.du {n : Nat} {le : Nat → Nat → Bool} (h : Ord n le) : Ord n (du le) where
  refl := h.refl
  anti x y hx hy hxy h1 := by
    have h3 : le y x = true := h1
    show le x y = false
    by_cases h2 : le x y = true
    · rw [h.anti x y hx hy hxy h2] at h3; cases h3
    · simpa using h2
  trans x y z hx hy hz h1 h2 := h.trans z y x hz hy hx h2 h1

theorem bnd_self {n : Nat} {le : Nat → Nat → Bool} (ho : Ord n le) {x : Nat} (hx : x < n) : bnd n le [x, x] = (x : Int) :=
  bnd_of_glb ho ⟨hx, by simp [ho.refl x hx], fun z _ h => h x (by simp)⟩

theorem spec24_eq (p : PT) (hx : ∀ r ∈ p.1, r.length ≤ 4294967296) : zz14 big p = some (tv (Good p ∧ Lat p.1.length (leP p)), ()) := by
  unfold zz14 zz14_s
  rw [specPoset_eq p hx, Option.bind_some]
  by_cases hg : Good p
  · rw [tv_t hg]
    have e : (Good p ∧ Lat p.1.length (leP p)) ↔ Lat p.1.length (leP p) := ⟨fun h => h.2, fun h => ⟨hg, h⟩⟩
    rw [tv_congr e, Bool.not_true, cond_false]
    have hf := hg.form
    have ho := hg.ord
    have h10 := hg.len
    clear e hg hx
    generalize p.1.length = n at *
    generalize leP p = le at *
    subst hf
    by_cases h0 : n = 0
    · rw [cdt (by omega), tv_f fun h => by have := h.ne; omega]
    · rw [cdf (by omega), specDual_pos (by omega), Option.bind_some]
      have key : ∀ x y, x < n → y < n → (0 ≤ bnd n le [x, y] ↔ 0 ≤ bnd n le [y, x]) := fun x y _ _ => by rw [bnd_swap]
      refine zz14_h5 n (fun i => ∀ x, x < i → ∀ y, y < x → 0 ≤ bnd n le [x, y] ∧ 0 ≤ bnd n (du le) [x, y]) (by omega) ?_ ?_ 0 (by omega) (by intro x hx; omega)
      · intro rc i hi hv ih
        unfold zz14_b5
        rw [pos_len, cdt (by omega)]
        refine zz14_h8 i (fun j => ∀ y, y < j → 0 ≤ bnd n le [i, y] ∧ 0 ≤ bnd n (du le) [i, y]) (by omega) ?_ ?_ 0 (by omega) (by intro x hx; omega)
        · intro rc2 j hj hv2 ih2
          unfold zz14_b8
          have e : ([(i : Int), (j : Int)] : List Int) = cs [i, j] := rfl
          have hS : ∀ s ∈ [i, j], s < n := by intro s hs; simp at hs; omega
          rw [cdt (by omega), e, specBound_pos (by omega) hS (by simp), Option.bind_some, specBound_pos (le := du le) (by omega) hS (by simp), Option.bind_some]
          by_cases h1 : 0 ≤ bnd n le [i, j]
          · rw [cdf (by omega)]
            by_cases h2 : 0 ≤ bnd n (du le) [i, j]
            · rw [cdf (by omega), wr1 (by omega)]
              exact ih2 (all_lt_succ.2 ⟨hv2, h1, h2⟩)
            · rw [cdt (by omega), tv_f fun h => h2 (h.join i j hi (by omega))]
          · rw [cdt (by omega), tv_f fun h => h1 (h.meet i j hi (by omega))]
        · intro rc2 hv2
          unfold zz14_b8
          rw [cdf (by omega), zz14_a8, wr1 (by omega)]
          exact ih (all_lt_succ.2 ⟨hv, hv2⟩)
      · intro rc hv
        unfold zz14_b5
        rw [pos_len, cdf (by omega), zz14_a5, tv_t]
        refine ⟨by omega, fun x y hx hy => ?_, fun x y hx hy => ?_⟩
        · rcases Nat.lt_trichotomy x y with h | h | h
          · rw [bnd_swap]; exact (hv y hy x h).1
          · subst h; rw [bnd_self ho hx]; omega
          · exact (hv x hx y h).1
        · rcases Nat.lt_trichotomy x y with h | h | h
          · rw [bnd_swap]; exact (hv y hy x h).2
          · subst h; rw [bnd_self ho.du hx]; omega
          · exact (hv x hx y h).2
  · rw [tv_f hg, tv_f fun h => hg h.1]
    rfl

theorem lat_cases {p : PT} (hx : ∀ r ∈ p.1, r.length ≤ 4294967296) : (∃ n le, p = pos n le ∧ LatP n le ∧ zz14 big p = some (true, ()) ∧ zz47 p = some ((some (lat n le), true, ()), ())) ∨
    (zz14 big p = some (false, ()) ∧ ∃ l, zz47 p = some ((l, false, ()), ())) := by
  by_cases h : Good p ∧ Lat p.1.length (leP p)
  · have hl : LatP p.1.length (leP p) := ⟨h.1.len, h.1.ord, h.2⟩
    refine .inl ⟨p.1.length, leP p, h.1.form, hl, by rw [spec24_eq p hx, tv_t h], ?_⟩
    have := latticeOf_pos hl
    rw [← h.1.form] at this
    exact this
  · exact .inr ⟨by rw [spec24_eq p hx, tv_f h], latticeOf_no hx h⟩

theorem those_lattice_irreducibles_c1 {n : Nat} {o : List (List Bool)} (ho : o.length = n) (hn : n ≤ 1048576) {c : ((Option ((List (List Bool)) × ((List (List Int)) × ((List (List Int)) × Unit)))) × Unit)} {P : Nat → Bool} (h : ∀ i, i < n → zz54 (i : Int) c.1 = some (P i, ())) : zz55 big o c = some (cs (fl n P), ()) := by
  unfold zz55 zz55_s
  rw [ho]
  refine zz55_h3 n (fun i l => l = cs (fl i P)) (by omega) ?_ ?_ 0 (by omega) _ rfl
  · intro rc i l hi hv ih
    have hl := fl_len i P
    unfold zz55_b3
    rw [cdt (by omega), h i hi, Option.bind_some, wr1 (by omega)]
    cases hp : P i with
    | true => rw [cond_true, app1 (by rw [hv, cs_len]; omega), Option.bind_some]; exact ih _ (by rw [hv]; exact fl_t hp)
    | false => exact ih _ (by rw [hv]; exact fl_f hp)
  · intro rc l hv
    unfold zz55_b3
    rw [cdf (by omega), zz55_a3, hv]

theorem those_order_lowerCovers_c1 {n : Nat} {o : List (List Bool)} (ho : o.length = n) (hn : n ≤ 1048576) {c : ((List (List Bool)) × (Int × Unit))} {P : Nat → Bool} (h : ∀ i, i < n → zz51 (i : Int) c.1 c.2.1 = some (P i, ())) : zz52 big o c = some (cs (fl n P), ()) := by
  unfold zz52 zz52_s
  rw [ho]
  refine zz52_h3 n (fun i l => l = cs (fl i P)) (by omega) ?_ ?_ 0 (by omega) _ rfl
  · intro rc i l hi hv ih
    have hl := fl_len i P
    unfold zz52_b3
    rw [cdt (by omega), h i hi, Option.bind_some, wr1 (by omega)]
    cases hp : P i with
    | true => rw [cond_true, app1 (by rw [hv, cs_len]; omega), Option.bind_some]; exact ih _ (by rw [hv]; exact fl_t hp)
    | false => exact ih _ (by rw [hv]; exact fl_f hp)
  · intro rc l hv
    unfold zz52_b3
    rw [cdf (by omega), zz52_a3, hv]

theorem szIntS_eq (a : List Int) (l : Int) (h : a.length ≤ 9223372036854775807) (h0 : 0 ≤ l) (h1 : l ≤ 1048576) : ∃ v, zz0 a l = some (v, ()) ∧ v ≤ 1048576 ∧ (0 ≤ v → a.length ≤ 1048576) := by
  unfold zz0 zz0_s
  rw [wr (by omega) (by omega)]
  by_cases hl : l - (a.length : Int) < 0
  · rw [cdt hl]
    exact ⟨_, rfl, by omega, by omega⟩
  · rw [cdf hl]
    exact ⟨_, rfl, by omega, by omega⟩

theorem szIntSS_l (N : Nat) : ∀ (n : Nat) (a : List (List Int)) (l : Int) (i : Nat), a.length - i < n → i ≤ a.length → a.length ≤ 1048576 → 0 ≤ l → l ≤ 1048576 → (∀ x ∈ a, x.length ≤ 9223372036854775807) →
    ∃ v, zz1_l5 N zz1_a5 n a l i = some (v, ()) ∧ v ≤ 1048576 ∧ (0 ≤ v → ∀ x ∈ a.drop i, x.length ≤ 1048576)
  | 0, _, _, _, h, _, _, _, _, _ => by omega
  | n + 1, a, l, i, h, hi, hb, h0, h1, hx => by
    simp only [zz1_l5, zz1_b5]
    by_cases hlt : i < a.length
    · obtain ⟨v, hv, hv1, hv2⟩ := szIntS_eq _ l (hx _ (List.getElem_mem hlt)) h0 h1
      rw [cdt (by omega), atI_lt a i hlt, Option.bind_some, hv, Option.bind_some, wr1 (by omega)]
      by_cases hl : v < 0
      · rw [cdt hl]
        exact ⟨_, rfl, by omega, by omega⟩
      · rw [cdf hl]
        obtain ⟨w, hw, hw1, hw2⟩ := szIntSS_l N n a v (i + 1) (by omega) (by omega) hb (by omega) hv1 hx
        refine ⟨w, hw, hw1, fun h x hx' => ?_⟩
        rw [List.drop_eq_getElem_cons hlt] at hx'
        rcases List.mem_cons.1 hx' with rfl | hx'
        · exact hv2 (by omega)
        · exact hw2 h x hx'
    · rw [cdf (by omega), List.drop_eq_nil_of_le (by omega)]
      exact ⟨_, rfl, h1, by simp⟩

theorem szIntSS_eq (a : List (List Int)) (l : Int) (ha : a.length ≤ 9223372036854775807) (hx : ∀ x ∈ a, x.length ≤ 9223372036854775807) (h0 : 0 ≤ l) (h1 : l ≤ 1048576) : ∃ v, zz1 big a l = some (v, ()) ∧ v ≤ 1048576 ∧ (0 ≤ v → a.length ≤ 1048576 ∧ ∀ x ∈ a, x.length ≤ 1048576) := by
  have hb := big_ge
  unfold zz1 zz1_s
  rw [wr (by omega) (by omega)]
  by_cases h : l - (a.length : Int) < 0
  · rw [cdt h]
    exact ⟨_, rfl, by omega, by omega⟩
  · rw [cdf h]
    unfold zz1_F5
    obtain ⟨v, hv, hv1, hv2⟩ := szIntSS_l big big a (l - a.length) 0 (by omega) (by omega) (by omega) (by omega) (by omega) hx
    exact ⟨v, hv, hv1, fun h0 => ⟨by omega, by simpa using hv2 h0⟩⟩

def SmallP (p : PT) : Prop := p.1.length ≤ 1048576 ∧ ∀ r ∈ p.1, r.length ≤ 1048576

theorem szPoset_eq (p : PT) (l : Int) (hw : Wf (.pair (.sl (.sl I)) .unit) p) (h0 : 0 ≤ l) (h1 : l ≤ 1048576) : ∃ v, zz2 p l = some (v, ()) ∧ v ≤ 1048576 ∧ (0 ≤ v → SmallP p) := by
  simp only [Wf, maxLen] at hw
  obtain ⟨v, hv, hv1, hv2⟩ := szIntSS_eq p.1 l hw.1.1 (fun x hx => (hw.1.2 x hx).1) h0 h1
  unfold zz2 zz2_s
  rw [hv, Option.bind_some]
  by_cases h : v < 0
  · rw [cdt h]
    exact ⟨_, rfl, by omega, by omega⟩
  · rw [cdf h]
    exact ⟨_, rfl, hv1, hv2⟩

theorem toIntSS_eq (a : List (List Int)) (h : a.length ≤ 4294967296) (hx : ∀ x ∈ a, x.length ≤ 4294967296) : zz4 big a = some (a, ()) := by
  unfold zz4 zz4_s
  rw [mkI_nat _ _ h, Option.bind_some, Option.bind_some, cdt (by omega)]
  refine zz4_h3 a.length (fun i o => o.length = a.length ∧ o.take i = a.take i) (by omega) ?_ ?_ 0 (by omega) _ ⟨by simp, rfl⟩
  · intro rc i o hi hv ih
    have ho : i < o.length := by omega
    unfold zz4_b3
    rw [cdt (by omega), atI_lt a i hi, Option.bind_some, toIntS_eq _ (hx _ (List.getElem_mem hi)), Option.bind_some, atI_lt o i ho, Option.bind_some, Int.toNat_natCast, List.getElem?_eq_getElem ho, Option.bind_some, wr1 (by omega)]
    refine ih _ ⟨by rw [List.length_set]; exact hv.1, ?_⟩
    rw [List.take_succ_eq_append_getElem (by rw [List.length_set]; exact ho), List.take_succ_eq_append_getElem hi, List.getElem_set_self, List.take_set, List.set_eq_of_length_le (by rw [List.length_take]; omega), hv.2]
  · intro rc o hv
    unfold zz4_b3
    have h1 := hv.2
    rw [List.take_length, ← hv.1, List.take_length] at h1
    rw [cdf (by omega), zz4_a3, h1]

theorem toPoset_eq {p : PT} (h : SmallP p) : zz5 p = some (p, ()) := by
  unfold zz5 zz5_s
  have := h.1
  rw [toIntSS_eq p.1 (by omega) fun x hx => by have := h.2 x hx; omega]
  rfl

theorem eqPoset_eq {p q : PT} (h : SmallP p) : zz77 p q = some (decide (p = q), ()) := by
  unfold zz77 zz77_s
  have := h.1
  rw [eqIntSS_eq p.1 q.1 (by omega) fun x hx => by have := h.2 x hx; omega]
  rw [Option.bind_some]
  by_cases e : p = q
  · subst e; simp
  · rw [decide_eq_false e, decide_eq_false fun h => e (Prod.ext h rfl)]; rfl

theorem SmallP.rows {p : PT} (h : SmallP p) : ∀ r ∈ p.1, r.length ≤ 4294967296 := fun r hr => by have := h.2 r hr; omega

def ls (le : Nat → Nat → Bool) (x y : Nat) : Bool := decide (x ≠ y) && le x y

def cov (n : Nat) (le : Nat → Nat → Bool) (x y : Nat) : Bool := ls le x y && (List.range n).all fun z => !(ls le x z && ls le z y)

theorem less_eq {n : Nat} {le : Nat → Nat → Bool} {x y : Nat} (hx : x < n) (hy : y < n) : zz49 (mkT n le) (x : Int) (y : Int) = some (ls le x y, ()) := by
  unfold zz49 zz49_s ls
  simp only [atI_mkR hx, atI_mkR hy, Option.bind_some]
  by_cases h : x = y
  · rw [cdf (by omega), decide_eq_false (by omega)]; rfl
  · rw [cdt (by omega), decide_eq_true h]; rfl

theorem specLess_eq {n : Nat} {le : Nat → Nat → Bool} (hn : n ≤ 4294967296) {x y : Nat} (hx : x < n) (hy : y < n) : zz16 (pos n le) (x : Int) (y : Int) = some (ls le x y, ()) := by
  unfold zz16 zz16_s ls
  rw [l23Leq_pos hn hx hy, Option.bind_some]
  by_cases h : x = y
  · rw [cdf (by omega), decide_eq_false (by omega)]; rfl
  · rw [cdt (by omega), decide_eq_true h]; rfl

theorem cov_t {n : Nat} {le : Nat → Nat → Bool} {x y : Nat} (h : ls le x y = true) (h2 : ∀ z, z < n → ¬ (ls le x z = true ∧ ls le z y = true)) : cov n le x y = true := by
  unfold cov
  rw [h, Bool.true_and, List.all_eq_true]
  intro z hz
  have := h2 z (List.mem_range.1 hz)
  cases h3 : ls le x z <;> cases h4 : ls le z y <;> simp_all

theorem cov_f {n : Nat} {le : Nat → Nat → Bool} {x y z : Nat} (hz : z < n) (h1 : ls le x z = true) (h2 : ls le z y = true) : cov n le x y = false := by
  unfold cov
  rw [Bool.and_eq_false_iff]
  refine .inr (List.all_eq_false.2 ⟨z, List.mem_range.2 hz, by simp [h1, h2]⟩)

theorem covers_eq {n : Nat} {le : Nat → Nat → Bool} (hn : n ≤ 1048576) {x y : Nat} (hx : x < n) (hy : y < n) : zz50 big (mkT n le) (x : Int) (y : Int) = some (cov n le x y, ()) := by
  unfold zz50 zz50_s
  rw [less_eq hx hy, Option.bind_some, mkR_len]
  cases h : ls le x y with
  | false => simp [cov, h]
  | true =>
    rw [Bool.not_true, cond_false]
    refine zz50_h4 n (fun i => ∀ z, z < i → ¬ (ls le x z = true ∧ ls le z y = true)) (by omega) ?_ ?_ 0 (by omega) (by intro z hz; omega)
    · intro rc i hi hv ih
      unfold zz50_b4
      rw [cdt (by omega), less_eq hx hi, Option.bind_some, less_eq hi hy, Option.bind_some, wr1 (by omega)]
      cases h1 : ls le x i with
      | false => exact ih (all_lt_succ.2 ⟨hv, by simp [h1]⟩)
      | true =>
        cases h2 : ls le i y with
        | false => exact ih (all_lt_succ.2 ⟨hv, by simp [h2]⟩)
        | true => rw [cov_f hi h1 h2]; rfl
    · intro rc hv
      unfold zz50_b4
      rw [cdf (by omega), zz50_a4, cov_t h hv]

theorem specCovers_eq {n : Nat} {le : Nat → Nat → Bool} (hn : n ≤ 1048576) {x y : Nat} (hx : x < n) (hy : y < n) : zz17 big (pos n le) (x : Int) (y : Int) = some (cov n le x y, ()) := by
  unfold zz17 zz17_s
  rw [specLess_eq (by omega) hx hy, Option.bind_some]
  cases h : ls le x y with
  | false => simp [cov, h]
  | true =>
    rw [Bool.not_true, cond_false]
    refine zz17_h4 n (fun i => ∀ z, z < i → ¬ (ls le x z = true ∧ ls le z y = true)) (by omega) ?_ ?_ 0 (by omega) (by intro z hz; omega)
    · intro rc i hi hv ih
      unfold zz17_b4
      rw [pos_len, cdt (by omega), specLess_eq (by omega) hx hi, Option.bind_some, specLess_eq (by omega) hi hy, Option.bind_some, wr1 (by omega)]
      cases h1 : ls le x i with
      | false => exact ih (all_lt_succ.2 ⟨hv, by simp [h1]⟩)
      | true =>
        cases h2 : ls le i y with
        | false => exact ih (all_lt_succ.2 ⟨hv, by simp [h2]⟩)
        | true => rw [cov_f hi h1 h2]; rfl
    · intro rc hv
      unfold zz17_b4
      rw [pos_len, cdf (by omega), zz17_a4, cov_t h hv]

theorem lowerCovers_eq {n : Nat} {le : Nat → Nat → Bool} (hn : n ≤ 1048576) {y : Nat} (hy : y < n) : zz53 (mkT n le) (y : Int) = some (cs (fl n fun x => cov n le x y), ()) := by
  unfold zz53 zz53_s
  rw [those_order_lowerCovers_c1 (mkR_len n _) hn (P := fun x => cov n le x y)]
  · rfl
  · intro i hi
    unfold zz51 zz51_s
    rw [covers_eq hn hi hy]; rfl

theorem has_eq {n : Nat} {le : Nat → Nat → Bool} (s : List Int) (h : s.length ≤ 4294967296) : zz59 (mkT n le) s = some (s.all (inB n), ()) := by
  unfold zz59 zz59_s
  rw [mkR_len, inSize_eq n s (by omega)]; rfl

theorem inB_form {n : Nat} {x : Int} (h : inB n x = true) : ∃ k : Nat, k < n ∧ x = (k : Int) := by
  unfold inB at h
  rw [decide_eq_true_eq] at h
  exact ⟨x.toNat, by omega, by omega⟩

theorem takes_cases {p : PT} (hx : ∀ r ∈ p.1, r.length ≤ 4294967296) : (∃ n le, p = pos n le ∧ LatP n le ∧ n ≤ 8 ∧ zz15 p = some (true, ()) ∧ zz48 p = some ((some (lat n le), true, ()), ())) ∨
    (zz15 p = some (false, ()) ∧ ∃ l, zz48 p = some ((l, false, ()), ())) := by
  unfold zz15 zz15_s zz48 zz48_s
  rcases lat_cases hx with ⟨n, le, e, hl, h1, h2⟩ | ⟨h1, l, h2⟩
  · rw [h1, h2, Option.bind_some, Option.bind_some]
    by_cases h8 : n ≤ 8
    · refine .inl ⟨n, le, e, hl, h8, ?_, ?_⟩
      · rw [e, pos_len, cdt (by omega)]
      · simp only [cond_true, Option.bind_some]
        unfold lat
        rw [mkR_len, decide_eq_true (by omega)]
    · refine .inr ⟨?_, some (lat n le), ?_⟩
      · rw [e, pos_len, cdf (by omega)]
      · simp only [cond_true, Option.bind_some]
        unfold lat
        rw [mkR_len, decide_eq_false (by omega)]
  · rw [h1, h2, Option.bind_some, Option.bind_some]
    refine .inr ⟨?_, l, rfl⟩
    by_cases h : (p.1.length : Int) ≤ 8
    · rw [cdt h]
    · rw [cdf h]

def irr (n : Nat) (le : Nat → Nat → Bool) (j : Nat) : Bool := decide ((fl n fun x => cov n le x j).length = 1)

theorem specIrr_eq {n : Nat} {le : Nat → Nat → Bool} (hn : n ≤ 1048576) : zz18 big (pos n le) = some (cs (fl n fun j => irr n le j), ()) := by
  unfold zz18 zz18_s
  refine zz18_h3 n (fun i l => l = cs (fl i fun j => irr n le j)) (by omega) ?_ ?_ 0 (by omega) _ rfl
  · intro rc i l hi hv ih
    unfold zz18_b3
    rw [pos_len, cdt (by omega)]
    refine zz18_h7 n (fun k c => c = ((fl k fun x => cov n le x i).length : Int)) (by omega) ?_ ?_ 0 (by omega) _ rfl
    · intro rc2 k c hk hc ih2
      have hl := fl_len k fun x => cov n le x i
      unfold zz18_b7
      rw [pos_len, cdt (by omega), specCovers_eq hn hk hi, Option.bind_some, hc, wr1 (i := k) (by omega)]
      cases h : cov n le k i with
      | true =>
        rw [cond_true, wr1 (by omega)]
        refine ih2 _ ?_
        rw [fl_succ, if_pos h, List.length_append]; rfl
      | false =>
        refine ih2 _ ?_
        rw [fl_succ, if_neg (by simp [h])]
    · intro rc2 c hc
      have hl := fl_len i fun j => irr n le j
      unfold zz18_b7
      rw [pos_len, cdf (by omega), zz18_a7, wr1 (by omega), hc]
      by_cases h : (fl n fun x => cov n le x i).length = 1
      · rw [cdt (by omega), app1 (by rw [hv, cs_len]; omega), Option.bind_some]
        exact ih _ (by rw [hv]; exact fl_t (P := fun j => irr n le j) (decide_eq_true h))
      · rw [cdf (by omega)]
        exact ih _ (by rw [hv]; exact fl_f (P := fun j => irr n le j) (decide_eq_false h))
  · intro rc l hv
    unfold zz18_b3
    rw [pos_len, cdf (by omega), zz18_a3, hv]

theorem irrIs_eq {n : Nat} {le : Nat → Nat → Bool} (hn : n ≤ 1048576) (j : Int) : zz60 (some (lat n le)) j = some (inB n j && irr n le j.toNat, ()) := by
  unfold zz60 zz60_s lat
  rw [Option.bind_some, has_eq _ (by simp), Option.bind_some, List.all_cons, List.all_nil, Bool.and_true]
  cases h : inB n j with
  | true =>
    obtain ⟨k, hk, e⟩ := inB_form h
    subst e
    rw [cond_true, Option.bind_some, lowerCovers_eq hn hk, Option.bind_some, cs_len, Int.toNat_natCast, Bool.true_and]
    unfold irr
    congr 2
    exact decide_eq_decide.2 (by omega)
  | false => rfl

theorem fl_first {n : Nat} {P : Nat → Bool} (h : 0 < (fl n P).length) : P (fl n P)[0] = true ∧ (fl n P)[0] < n ∧ ∀ i, i < (fl n P)[0] → P i = false := by
  have h0 := fl_mem.1 (List.getElem_mem h)
  refine ⟨h0.2, h0.1, fun i hi => ?_⟩
  cases hp : P i with
  | false => rfl
  | true =>
    have hm : i ∈ fl n P := fl_mem.2 ⟨by omega, hp⟩
    have hpw : (fl n P).Pairwise (· < ·) := List.Pairwise.filter _ List.pairwise_lt_range
    obtain ⟨k, hk, e⟩ := List.getElem_of_mem hm
    rcases Nat.eq_zero_or_pos k with h1 | h1
    · subst h1; omega
    · have := List.pairwise_iff_getElem.1 hpw 0 k h hk h1
      omega

def star (n : Nat) (le : Nat → Nat → Bool) (j : Nat) : Nat := (fl n fun x => cov n le x j).headD 0

theorem star_eq {n : Nat} {le : Nat → Nat → Bool} (hn : n ≤ 1048576) {j : Nat} (hj : j < n) (hi : irr n le j = true) : zz61 (some (lat n le)) (j : Int) = some ((star n le j : Int), ()) := by
  unfold irr at hi
  rw [decide_eq_true_eq] at hi
  unfold zz61 zz61_s lat
  rw [Option.bind_some, lowerCovers_eq hn hj, Option.bind_some]
  have h0 : 0 < (fl n fun x => cov n le x j).length := by omega
  have h1 := atI_cs h0
  have h2 := get_cs h0
  rw [show (0 : Int) = ((0 : Nat) : Int) from rfl, h1, Option.bind_some, Int.toNat_natCast, h2, Option.bind_some]
  unfold star
  congr 3
  rw [List.getElem_zero, List.headD_eq_head?_getD, List.head?_eq_some_head (List.ne_nil_of_length_pos h0)]
  rfl

theorem specStar_eq {n : Nat} {le : Nat → Nat → Bool} (hn : n ≤ 1048576) {j : Nat} (hj : j < n) (hi : irr n le j = true) : zz20 big (pos n le) (j : Int) = some ((star n le j : Int), ()) := by
  unfold irr at hi
  rw [decide_eq_true_eq] at hi
  have h0 : 0 < (fl n fun x => cov n le x j).length := by omega
  have hf := fl_first h0
  have hs : star n le j = (fl n fun x => cov n le x j)[0] := by
    unfold star
    rw [List.getElem_zero, List.headD_eq_head?_getD, List.head?_eq_some_head (List.ne_nil_of_length_pos h0)]
    rfl
  rw [← hs] at hf
  unfold zz20 zz20_s
  refine zz20_h2 (star n le j) (fun _ => True) (by omega) ?_ ?_ 0 (by omega) trivial
  · intro rc i hi hv ih
    unfold zz20_b2
    rw [specCovers_eq hn (by omega) hj, Option.bind_some, hf.2.2 i hi, Bool.not_false, cond_true, wr1 (by omega)]
    exact ih trivial
  · intro rc hv
    unfold zz20_b2
    rw [specCovers_eq hn hf.2.1 hj, Option.bind_some, hf.1, Bool.not_true, cond_false, zz20_a2]

theorem LatP.du {n : Nat} {le : Nat → Nat → Bool} (h : LatP n le) : LatP n (du le) := ⟨h.le10, Ord.du h.ord, h.lat.ne, h.lat.join, h.lat.meet⟩

theorem LatP.glb {n : Nat} {le : Nat → Nat → Bool} (h : LatP n le) {x y : Nat} (hx : x < n) (hy : y < n) : IsGlb n le [x, y] (mt n le x y) := glb_of_bnd (h.lat.meet x y hx hy)

theorem LatP.mlt {n : Nat} {le : Nat → Nat → Bool} (h : LatP n le) {x y : Nat} (hx : x < n) (hy : y < n) : mt n le x y < n := (h.glb hx hy).lt

theorem LatP.m1 {n : Nat} {le : Nat → Nat → Bool} (h : LatP n le) {x y : Nat} (hx : x < n) (hy : y < n) : le (mt n le x y) x = true := (h.glb hx hy).lo x (by simp)

theorem LatP.m2 {n : Nat} {le : Nat → Nat → Bool} (h : LatP n le) {x y : Nat} (hx : x < n) (hy : y < n) : le (mt n le x y) y = true := (h.glb hx hy).lo y (by simp)

theorem LatP.mg {n : Nat} {le : Nat → Nat → Bool} (h : LatP n le) {x y z : Nat} (hx : x < n) (hy : y < n) (hz : z < n) (h1 : le z x = true) (h2 : le z y = true) : le z (mt n le x y) = true :=
  (h.glb hx hy).gr z hz (by simp [h1, h2])

theorem LatP.tr {n : Nat} {le : Nat → Nat → Bool} (h : LatP n le) {x y z : Nat} (hx : x < n) (hy : y < n) (hz : z < n) (h1 : le x y = true) (h2 : le y z = true) : le x z = true := h.ord.trans x y z hx hy hz h1 h2

theorem topEx {n : Nat} {le : Nat → Nat → Bool} (h : LatP n le) : ∃ t, IsGlb n le [] t := by
  have key : ∀ i, i ≤ n → ∃ t, t < n ∧ ∀ x, x < i → le x t = true := by
    intro i
    induction i with
    | zero => exact fun _ => ⟨0, h.lat.ne, by intro x hx; omega⟩
    | succ i ih =>
      intro hi
      obtain ⟨t, ht, h1⟩ := ih (by omega)
      have hin : i < n := by omega
      refine ⟨mt n (YtlndlclemhfekaaGreat.du le) t i, h.du.mlt ht hin, all_lt_succ.2 ⟨fun x hx => ?_, h.du.m2 ht hin⟩⟩
      exact h.tr (by omega) ht (h.du.mlt ht hin) (h1 x hx) (h.du.m1 ht hin)
  obtain ⟨t, ht, h1⟩ := key n (by omega)
  exact ⟨t, ht, by simp, fun z hz _ => h1 z hz⟩

theorem glbEx {n : Nat} {le : Nat → Nat → Bool} (h : LatP n le) : ∀ S : List Nat, (∀ s ∈ S, s < n) → ∃ m, IsGlb n le S m
  | [], _ => topEx h
  | s :: S, hS => by
    obtain ⟨m, hm⟩ := glbEx h S fun x hx => hS x (by simp [hx])
    have hs := hS s (by simp)
    refine ⟨mt n le s m, h.mlt hs hm.lt, fun x hx => ?_, fun z hz hx => ?_⟩
    · rcases List.mem_cons.1 hx with rfl | hx'
      · exact h.m1 hs hm.lt
      · exact h.tr (h.mlt hs hm.lt) hm.lt (hS x hx) (h.m2 hs hm.lt) (hm.lo x hx')
    · exact h.mg hs hm.lt hz (hx s (by simp)) (hm.gr z hz fun x hx' => hx x (by simp [hx']))

theorem LatP.gbs {n : Nat} {le : Nat → Nat → Bool} (h : LatP n le) {S : List Nat} (hS : ∀ s ∈ S, s < n) : IsGlb n le S (gb n le S) := by
  obtain ⟨m, hm⟩ := glbEx h S hS
  unfold gb
  rw [bnd_of_glb h.ord hm]
  exact hm

theorem LatP.bnds {n : Nat} {le : Nat → Nat → Bool} (h : LatP n le) {S : List Nat} (hS : ∀ s ∈ S, s < n) : bnd n le S = ((gb n le S : Nat) : Int) := bnd_of_glb h.ord (h.gbs hS)

theorem noneLt {n : Nat} : ∀ s ∈ ([] : List Nat), s < n := fun s hs => by cases hs

theorem lat1 (n : Nat) (le : Nat → Nat → Bool) : (lat n le).1 = mkT n le := rfl

theorem lat2 (n : Nat) (le : Nat → Nat → Bool) : (lat n le).2.1 = mkT n fun x y => ((mt n le x y : Nat) : Int) := rfl

theorem lat3 (n : Nat) (le : Nat → Nat → Bool) : (lat n le).2.2.1 = mkT n fun x y => ((mt n (du le) x y : Nat) : Int) := rfl

theorem specBoundL {n : Nat} {le : Nat → Nat → Bool} (h : LatP n le) {S : List Nat} (hS : ∀ s ∈ S, s < n) (hl : S.length ≤ 4294967296) : zz13 big (pos n le) (cs S) = some (((gb n le S : Nat) : Int), ()) := by
  have := h.le10
  rw [specBound_pos (by omega) hS hl, h.bnds hS]

theorem markIntSS_ok (a : List (List Int)) (k : Int) (h : a.length ≤ 1048576) (hx : ∀ x ∈ a, x.length ≤ 1048576) (hk : 0 ≤ k) (hk2 : k ≤ 9000000000000) : ∃ v j, zz79 big a k = some (j, (v, ())) ∧ 0 ≤ j ∧ j ≤ k + 1048576 * 1048576 := by
  unfold zz79 zz79_s
  suffices H : ∀ (n : Nat) (b : List (List Int)) (i : Nat) (k2 : Int), b.length = a.length → (∀ x ∈ b.drop i, x.length ≤ 1048576) → i ≤ a.length → a.length - i < n → 0 ≤ k2 → k2 ≤ k + i * 1048576 → ∃ v j, zz79_l2 big zz79_a2 n b k2 i = some (j, (v, ())) ∧ 0 ≤ j ∧ j ≤ k + 1048576 * 1048576 from by
    have := big_ge
    exact H big a 0 k rfl (by simpa using hx) (by omega) (by omega) hk (by omega)
  intro n
  induction n with
  | zero => intro b i k2 _ _ _ hn; omega
  | succ n ih =>
    intro b i k2 hbl hb hi hn hk0 hk3
    simp only [zz79_l2, zz79_b2]
    by_cases hlt : i < a.length
    · have hlb : i < b.length := by omega
      have hbi : b[i].length ≤ 1048576 := hb _ (by rw [List.drop_eq_getElem_cons hlb]; exact List.mem_cons_self)
      rw [cdt (by omega), atI_lt b i hlb, Option.bind_some, Int.toNat_natCast, List.getElem?_eq_getElem hlb, Option.bind_some, Option.bind_some, markIntS_eq2 _ k2 (by omega) hk0 (by omega), Option.bind_some, Option.bind_some, Option.bind_some, wr1 (by omega)]
      refine ih _ (i + 1) _ (by rw [List.length_set]; exact hbl) ?_ (by omega) (by omega) (by omega) (by omega)
      rw [List.drop_set, if_pos (by omega)]
      intro x hx'
      exact hb x (by rw [List.drop_eq_getElem_cons hlb]; exact List.mem_cons_of_mem _ hx')
    · rw [cdf (by omega)]
      exact ⟨b, k2, rfl, hk0, by omega⟩

theorem markPoset_ok {p : PT} (h : SmallP p) (k : Int) (hk : 0 ≤ k) (hk2 : k ≤ 1048576) : ∃ v j, zz80 p k = some (j, (v, ())) ∧ 0 ≤ j ∧ j ≤ 10995116277760 := by
  obtain ⟨v, j, h1, h2, h3⟩ := markIntSS_ok p.1 k h.1 h.2 hk (by omega)
  unfold zz80
  rw [h1]
  exact ⟨_, _, rfl, h2, by omega⟩

abbrev bt (n : Nat) (le : Nat → Nat → Bool) : Nat := gb n (du le) []

theorem bt_lt {n : Nat} {le : Nat → Nat → Bool} (h : LatP n le) : bt n le < n := (h.du.gbs noneLt).lt

theorem jlt {n : Nat} {le : Nat → Nat → Bool} (h : LatP n le) {x y : Nat} (hx : x < n) (hy : y < n) : mt n (du le) x y < n := h.du.mlt hx hy

def pw (k : Nat) : Nat := 2 ^ k

theorem pw_le10 {k : Nat} (hk : k ≤ 10) : pw k ≤ 1024 := by
  have := Nat.pow_le_pow_right (n := 2) (by omega) hk
  simpa [pw] using this

theorem shl1 {k : Nat} (hk : k ≤ 10) : shlI IntKind.i64 1 (k : Int) = some (((pw k : Nat) : Int)) := by
  have hp := pw_le10 hk
  unfold shlI
  rw [if_neg (by omega), Int.toNat_natCast, show min k IntKind.i64.bits = k from Nat.min_eq_left (by show k ≤ 64; omega), Int.one_mul]
  have e : ((2 : Int) ^ k) = ((pw k : Nat) : Int) := by simp [pw]
  rw [e, wr (by omega) (by omega)]

theorem getD_get {S : List Nat} {k : Nat} (h : k < S.length) : S.getD k 0 = S[k] := by rw [List.getD_eq_getElem?_getD, List.getElem?_eq_getElem h]; rfl

abbrev P2 := Int × Int × Unit

def lx : List Int → List Int → Bool
  | a :: s, b :: t => if a ≠ b then decide (a < b) else lx s t
  | _, _ => false

theorem lx_drop {a b : List Int} {i : Nat} (h1 : i < a.length) (h2 : i < b.length) : lx (a.drop i) (b.drop i) = if a[i] ≠ b[i] then decide (a[i] < b[i]) else lx (a.drop (i + 1)) (b.drop (i + 1)) := by
  rw [List.drop_eq_getElem_cons h1, List.drop_eq_getElem_cons h2, lx]

theorem hasNot_eq (l : List Int) (x : Int) (h : l.length ≤ 4294967296) : zz71 big l x = some (decide (x ∉ l), ()) := by
  unfold zz71 zz71_s
  refine zz71_h2 l.length (fun i => ∀ y ∈ l.take i, x ≠ y) (by omega) ?_ ?_ 0 (by omega) (by simp)
  · intro rc i hi hv ih
    unfold zz71_b2
    rw [cdt (by omega), atI_lt l i hi, Option.bind_some, wr1 (by omega)]
    by_cases e : x = l[i]
    · rw [cdt e]
      have : x ∈ l := by rw [e]; exact List.getElem_mem hi
      simp [this]
    · rw [cdf e]
      exact ih ((all_take_succ hi (P := fun y => x ≠ y)).2 ⟨hv, e⟩)
  · intro rc hv
    rw [List.take_length] at hv
    unfold zz71_b2
    have : x ∉ l := fun hx => hv x hx rfl
    rw [cdf (by omega), zz71_a2]
    simp [this]

theorem fl_lt {n : Nat} {P Q : Nat → Bool} (h : ∀ x, x < n → P x = true → Q x = true) {y : Nat} (hy : y < n) (h1 : Q y = true) (h2 : P y = false) : (fl n P).length < (fl n Q).length := by
  have hm : (fl n P).Sublist (fl n Q) := by
    have e : fl n P = (fl n Q).filter P := by
      unfold fl
      rw [List.filter_filter]
      refine List.filter_congr fun x hx => ?_
      have := h x (List.mem_range.1 hx)
      cases hp : P x with
      | true => simp [this hp]
      | false => simp
    rw [e]; exact List.filter_sublist
  refine Nat.lt_of_le_of_ne hm.length_le fun e => ?_
  have := hm.eq_of_length e
  have hq := fl_inj this hy
  rw [h1, h2] at hq
  exact absurd hq (by simp)

theorem sum_le {l : List (List Int)} {k : Nat} (h : ∀ x ∈ l, x.length ≤ k) : (l.map List.length).sum ≤ l.length * k := by
  induction l with
  | nil => simp
  | cons x l ih =>
    have h1 := ih fun y hy => h y (List.mem_cons_of_mem _ hy)
    have h2 := h x List.mem_cons_self
    rw [List.map_cons, List.sum_cons, List.length_cons, Nat.succ_mul]; omega

theorem atI_csD {S : List Nat} {i : Nat} (h : i < S.length) : atI (cs S) (i : Int) = some ((S.getD i 0 : Nat) : Int) := by rw [atI_cs h, getD_get h]

theorem get_csD {S : List Nat} {i : Nat} (h : i < S.length) : (cs S)[i]? = some ((S.getD i 0 : Nat) : Int) := by rw [get_cs h, getD_get h]

theorem getD_mem {S : List Nat} {i : Nat} (h : i < S.length) : S.getD i 0 ∈ S := by rw [getD_get h]; exact List.getElem_mem h

abbrev OpT := Int × List Int × Unit

abbrev AlT := Int × List OpT × Unit

def flt (n : Nat) (f : Nat → Nat → Int) : Nat → List Int
  | 0 => []
  | k + 1 => flt n f k ++ mkR n (f k)

theorem flt_len (n : Nat) (f : Nat → Nat → Int) : ∀ k, (flt n f k).length = k * n
  | 0 => by simp [flt]
  | k + 1 => by rw [flt, List.length_append, flt_len n f k, mkR_len, Nat.succ_mul]

theorem nn_le {i n : Nat} (h1 : i ≤ 10) (h2 : n ≤ 10) : i * n ≤ 100 := by
  have := Nat.mul_le_mul h1 h2; omega

theorem flatOp_eq {n : Nat} {f : Nat → Nat → Int} (h : n ≤ 10) : zz62 big (mkT n f) = some ((2, flt n f n, ()), ()) := by
  unfold zz62 zz62_s
  rw [mkR_len]
  refine zz62_h3 n (fun i o => o = ((2 : Int), flt n f i, ())) (by omega) ?_ ?_ 0 (by omega) _ rfl
  · intro rc i o hi hv ih
    have hl := flt_len n f i
    have hn := nn_le (i := i) (n := n) (by omega) h
    subst hv
    unfold zz62_b3
    have e : appI (flt n f i) (mkR n (f i)) = some (flt n f (i + 1)) := by
      unfold appI
      rw [if_pos (by rw [mkR_len]; omega)]; rfl
    simp only [cdt (show (i : Int) < (n : Int) by omega), atI_mkR hi, Option.bind_some, e, wr1 (show i ≤ 4611686018427387904 by omega)]
    exact ih _ rfl
  · intro rc o hv
    unfold zz62_b3
    rw [cdf (by omega), zz62_a3, hv]

abbrev meetF (n : Nat) (le : Nat → Nat → Bool) : Nat → Nat → Int := fun x y => ((mt n le x y : Nat) : Int)

def latAlg (n : Nat) (le : Nat → Nat → Bool) : AlT := ((n : Int), [(2, flt n (meetF n le) n, ()), (2, flt n (meetF n (du le)) n, ())], ())

theorem algebra_eq {n : Nat} {le : Nat → Nat → Bool} (h : LatP n le) : zz63 (some (lat n le)) = some (latAlg n le, ()) := by
  unfold zz63 zz63_s
  simp only [Option.bind_some, lat1, lat2, lat3, mkR_len, flatOp_eq h.le10]
  rfl

theorem specAlgebra_eq {n : Nat} {le : Nat → Nat → Bool} (h : LatP n le) : zz19 big (pos n le) = some (latAlg n le, ()) := by
  have h10 := h.le10
  unfold zz19 zz19_s
  rw [specDual_pos (by omega), Option.bind_some, pos_len]
  refine zz19_h5 n (fun i a b => a = ((2 : Int), flt n (meetF n le) i, ()) ∧ b = ((2 : Int), flt n (meetF n (du le)) i, ())) (by omega) ?_ ?_ 0 (by omega) _ _ ⟨rfl, rfl⟩
  · intro rc i a b hi hv ih
    obtain ⟨e1, e2⟩ := hv
    subst e1; subst e2
    have hl := flt_len n (meetF n le) i
    have hl2 := flt_len n (meetF n (du le)) i
    have hn := nn_le (i := i) (n := n) (by omega) h10
    unfold zz19_b5
    rw [cdt (by omega)]
    refine zz19_h8 n (fun j a b => a = ((2 : Int), flt n (meetF n le) i ++ mkR j (meetF n le i), ()) ∧ b = ((2 : Int), flt n (meetF n (du le)) i ++ mkR j (meetF n (du le) i), ())) (by omega) ?_ ?_ 0 (by omega) _ _ ⟨by rw [mkR_zero, List.append_nil], by rw [mkR_zero, List.append_nil]⟩
    · intro rc2 j a b hj hv2 ih2
      obtain ⟨e1, e2⟩ := hv2
      subst e1; subst e2
      have b1 : zz13 big (pos n le) [(i : Int), (j : Int)] = some (((mt n le i j : Nat) : Int), ()) := specBoundL h (S := [i, j]) (by intro s hs; simp at hs; omega) (by simp)
      have b2 : zz13 big (pos n (du le)) [(i : Int), (j : Int)] = some (((mt n (du le) i j : Nat) : Int), ()) := specBoundL h.du (S := [i, j]) (by intro s hs; simp at hs; omega) (by simp)
      unfold zz19_b8
      simp only [cdt (show (j : Int) < (n : Int) by omega), b1, b2, Option.bind_some]
      rw [app1 (by rw [List.length_append, mkR_len]; omega), Option.bind_some, app1 (by rw [List.length_append, mkR_len]; omega), Option.bind_some, wr1 (by omega)]
      exact ih2 _ _ ⟨by rw [mkR_succ, List.append_assoc], by rw [mkR_succ, List.append_assoc]⟩
    · intro rc2 a b hv2
      obtain ⟨e1, e2⟩ := hv2
      unfold zz19_b8
      rw [cdf (by omega), zz19_a8, wr1 (by omega)]
      exact ih _ _ ⟨e1, e2⟩
  · intro rc a b hv
    obtain ⟨e1, e2⟩ := hv
    unfold zz19_b5
    rw [cdf (by omega), zz19_a5, e1, e2]
    rfl

structure Pt (n : Nat) (P : Nat → Nat) : Prop where
  lo : ∀ x, x < n → P x ≤ x
  id : ∀ x, x < n → P (P x) = P x

theorem Pt.lt {n : Nat} {P : Nat → Nat} (h : Pt n P) {x : Nat} (hx : x < n) : P x < n := Nat.lt_of_le_of_lt (h.lo x hx) hx

def ptL (n : Nat) (P : Nat → Nat) : List Int := mkR n fun x => ((P x : Nat) : Int)

theorem ptL_len (n : Nat) (P : Nat → Nat) : (ptL n P).length = n := mkR_len _ _

def Lep (n : Nat) (P C : Nat → Nat) : Prop := ∀ x, x < n → C (P x) = C x

def uni (P : Nat → Nat) (x y z : Nat) : Nat := if P z = max (P x) (P y) then min (P x) (P y) else P z

def cls (n : Nat) (P : Nat → Nat) : Nat := (fl n fun x => decide (P x = x)).length

theorem Lep.refl {n : Nat} {P : Nat → Nat} (h : Pt n P) : Lep n P P := h.id

theorem Lep.trans {n : Nat} {P Q C : Nat → Nat} (h : Pt n P) (h1 : Lep n P Q) (h2 : Lep n Q C) : Lep n P C := fun x hx => by
  have e1 := h1 x hx
  have e2 := h2 (P x) (h.lt hx)
  have e3 := h2 x hx
  rw [← e2, e1, e3]

theorem Lep.eq {n : Nat} {P Q : Nat → Nat} (h : Pt n P) (h' : Pt n Q) (h1 : Lep n P Q) (h2 : Lep n Q P) {x : Nat} (hx : x < n) : P x = Q x := by
  have a1 := h1 x hx
  have a2 := h2 x hx
  have b1 := h'.lo (P x) (h.lt hx)
  have b2 := h.lo (Q x) (h'.lt hx)
  omega

theorem Lep.ker {n : Nat} {P C : Nat → Nat} (h : Lep n P C) {x y : Nat} (hx : x < n) (hy : y < n) (e : P x = P y) : C x = C y := by
  rw [← h x hx, ← h y hy, e]

theorem uni_pt {n : Nat} {P : Nat → Nat} (h : Pt n P) {x y : Nat} (hx : x < n) (hy : y < n) : Pt n (uni P x y) where
  lo := fun z hz => by
    have := h.lo z hz
    unfold uni; split <;> omega
  id := fun z hz => by
    have e1 := h.id x hx
    have e2 := h.id y hy
    have e3 := h.id z hz
    unfold uni
    by_cases c : P z = max (P x) (P y)
    · rw [if_pos c]
      rcases Nat.le_total (P x) (P y) with hl | hl
      · rw [Nat.min_eq_left hl, Nat.max_eq_right hl, e1]
        split <;> omega
      · rw [Nat.min_eq_right hl, Nat.max_eq_left hl, e2]
        split <;> omega
    · rw [if_neg c, e3, if_neg c]

theorem uni_le {n : Nat} {P C : Nat → Nat} (hp : Pt n P) (h : Lep n P C) {x y : Nat} (hx : x < n) (hy : y < n) (e : C x = C y) : Lep n (uni P x y) C := fun z hz => by
  have e1 := h x hx
  have e2 := h y hy
  have e3 := h z hz
  unfold uni
  by_cases c : P z = max (P x) (P y)
  · rw [if_pos c]
    rcases Nat.le_total (P x) (P y) with hl | hl
    · rw [Nat.max_eq_right hl] at c
      rw [Nat.min_eq_left hl, e1, ← e3, c, e2, e]
    · rw [Nat.max_eq_left hl] at c
      rw [Nat.min_eq_right hl, e2, ← e3, c, e1, e]
  · rw [if_neg c, e3]

theorem le_uni {n : Nat} {P : Nat → Nat} (hp : Pt n P) (x y : Nat) : Lep n P (uni P x y) := fun z hz => by
  unfold uni; rw [hp.id z hz]

theorem uni_eq (P : Nat → Nat) (x y : Nat) : uni P x y x = uni P x y y := by
  unfold uni
  rcases Nat.le_total (P x) (P y) with hl | hl
  · rw [Nat.min_eq_left hl, Nat.max_eq_right hl]
    split <;> simp_all
  · rw [Nat.min_eq_right hl, Nat.max_eq_left hl]
    split <;> simp_all

theorem uni_same {P : Nat → Nat} {x y : Nat} (e : P x = P y) (z : Nat) : uni P x y z = P z := by
  unfold uni; rw [e, Nat.max_self, Nat.min_self]; split <;> simp_all

theorem cls_lt {n : Nat} {P Q : Nat → Nat} (h : Pt n P) (h' : Pt n Q) (hl : Lep n P Q) {x : Nat} (hx : x < n) (hne : Q x ≠ P x) : cls n Q < cls n P := by
  refine fl_lt (fun z hz e => ?_) (h.lt hx) (decide_eq_true (h.id x hx)) (decide_eq_false fun e => hne ?_)
  · have e := of_decide_eq_true e
    have a1 := hl z hz
    have a2 := h.lo z hz
    have a3 := h'.lo (P z) (h.lt hz)
    exact decide_eq_true (by omega)
  · rw [← hl x hx, e]

theorem cls_le {n : Nat} (P : Nat → Nat) : cls n P ≤ n := fl_len _ _

theorem cls_congr {n : Nat} {P Q : Nat → Nat} (e : ∀ x, x < n → P x = Q x) : cls n P = cls n Q := by
  unfold cls; rw [fl_congr fun x hx => by rw [e x hx]]

theorem ptL_congr {n : Nat} {P Q : Nat → Nat} (e : ∀ x, x < n → P x = Q x) : ptL n P = ptL n Q := mkR_congr fun x hx => by rw [e x hx]

theorem unite_eq {n : Nat} {P : Nat → Nat} {x y : Nat} (hn : n ≤ 1048576) (hx : x < n) (hy : y < n) : zz65 big (ptL n P) (x : Int) (y : Int) = some (decide (P x ≠ P y), (ptL n (uni P x y), ())) := by
  unfold zz65 zz65_s
  have g : ∀ z, z < n → atI (ptL n P) (z : Int) = some ((P z : Nat) : Int) := fun z hz => atI_mkR hz
  have g2 : ∀ z, z < n → (ptL n P)[z]? = some ((P z : Nat) : Int) := fun z hz => get_mkR hz
  simp only [g x hx, g y hy, Int.toNat_natCast, g2 x hx, g2 y hy, Option.bind_some, ptL_len]
  by_cases e : P x = P y
  · rw [cdt (congrArg Nat.cast e), decide_eq_false (by simpa using e), ptL_congr fun z _ => uni_same e z]
  · rw [cdf (show ¬ ((P x : Nat) : Int) = ((P y : Nat) : Int) by omega), show decide (P x ≠ P y) = true from decide_eq_true e]
    have key : ∀ lo hi : Nat, lo = min (P x) (P y) → hi = max (P x) (P y) → zz65_F7 big (ptL n P) (lo : Int) (hi : Int) (n : Int) 0 = some (true, (ptL n (uni P x y), ())) := by
      intro lo hi e1 e2
      have hlh : lo ≠ hi := by omega
      refine zz65_h7 n (fun i q => q = mkR n fun z => ((if z < i then uni P x y z else P z : Nat) : Int)) (by omega) ?_ ?_ 0 (by omega) _ (mkR_congr fun z _ => by rw [if_neg (by omega)])
      · intro rc i q hi' hq ih
        subst hq
        unfold zz65_b7
        simp only [cdt (show (i : Int) < (n : Int) by omega), Int.toNat_natCast, atI_mkR hi', get_mkR hi', Option.bind_some, wr1 (show i ≤ 4611686018427387904 by omega), Nat.lt_irrefl, if_false]
        by_cases c : P i = hi
        · rw [cdt (congrArg Nat.cast c)]
          refine ih _ ?_
          rw [mkR_set]
          refine mkR_congr fun z hz => ?_
          by_cases ez : z = i
          · subst ez
            rw [if_pos rfl, if_pos (by omega)]
            unfold uni
            rw [if_pos (by omega), e1]
          · rw [if_neg ez]
            by_cases lt : z < i
            · rw [if_pos lt, if_pos (by omega)]
            · rw [if_neg lt, if_neg (by omega)]
        · rw [cdf (show ¬ ((P i : Nat) : Int) = (hi : Int) by omega)]
          refine ih _ (mkR_congr fun z hz => ?_)
          by_cases ez : z = i
          · subst ez
            rw [if_neg (by omega), if_pos (by omega)]
            unfold uni
            rw [if_neg (by omega)]
          · by_cases lt : z < i
            · rw [if_pos lt, if_pos (by omega)]
            · rw [if_neg lt, if_neg (by omega)]
      · intro rc q hq
        subst hq
        unfold zz65_b7
        rw [cdf (by omega), zz65_a7]
        rw [show (mkR n fun z => ((if z < n then uni P x y z else P z : Nat) : Int)) = ptL n (uni P x y) from mkR_congr fun z hz => by rw [if_pos hz]]
    by_cases c : P y < P x
    · rw [cdt (show ((P y : Nat) : Int) < ((P x : Nat) : Int) by omega)]
      exact key _ _ (by omega) (by omega)
    · rw [cdf (show ¬ ((P y : Nat) : Int) < ((P x : Nat) : Int) by omega)]
      exact key _ _ (by omega) (by omega)

theorem specUnite_eq {n : Nat} {P : Nat → Nat} {x y : Nat} (hn : n ≤ 1048576) (hx : x < n) (hy : y < n) : zz24 big (ptL n P) (x : Int) (y : Int) = some (ptL n (uni P x y), ()) := by
  unfold zz24 zz24_s
  have g : ∀ z, z < n → atI (ptL n P) (z : Int) = some ((P z : Nat) : Int) := fun z hz => atI_mkR hz
  have e1 : zz22 ((P x : Nat) : Int) ((P y : Nat) : Int) = some (((min (P x) (P y) : Nat) : Int), ()) := by
    unfold zz22 zz22_s
    by_cases c : P x < P y
    · rw [cdt (by omega), Nat.min_eq_left (by omega)]
    · rw [cdf (by omega), Nat.min_eq_right (by omega)]
  have e2 : zz23 ((P x : Nat) : Int) ((P y : Nat) : Int) = some (((max (P x) (P y) : Nat) : Int), ()) := by
    unfold zz23 zz23_s
    by_cases c : P y < P x
    · rw [cdt (by omega), Nat.max_eq_left (by omega)]
    · rw [cdf (by omega), Nat.max_eq_right (by omega)]
  simp only [g x hx, g y hy, Option.bind_some, e1, e2]
  refine zz24_h4 n (fun i q => q = ptL i (uni P x y)) (by omega) ?_ ?_ 0 (by omega) _ rfl
  · intro rc i q hi hq ih
    have hl := ptL_len i (uni P x y)
    unfold zz24_b4
    simp only [ptL_len, cdt (show (i : Int) < (n : Int) by omega), g i hi, Option.bind_some, wr1 (show i ≤ 4611686018427387904 by omega)]
    by_cases c : P i = max (P x) (P y)
    · rw [cdt (congrArg Nat.cast c), app1 (by rw [hq, hl]; omega), Option.bind_some]
      refine ih _ ?_
      rw [hq]; unfold ptL; rw [mkR_succ]
      unfold uni; rw [if_pos c]
    · rw [cdf (show ¬ ((P i : Nat) : Int) = ((max (P x) (P y) : Nat) : Int) by omega), app1 (by rw [hq, hl]; omega), Option.bind_some]
      refine ih _ ?_
      rw [hq]; unfold ptL; rw [mkR_succ]
      unfold uni; rw [if_neg c]
  · intro rc q hq
    unfold zz24_b4
    rw [ptL_len, cdf (by omega), zz24_a4, hq]

def opsL (n : Nat) (fs : List (Nat → Nat → Nat)) : List OpT := fs.map fun f => ((2 : Int), flt n (fun x y => ((f x y : Nat) : Int)) n, ())

def algL (n : Nat) (fs : List (Nat → Nat → Nat)) : AlT := ((n : Int), opsL n fs, ())

def Opn (n : Nat) (fs : List (Nat → Nat → Nat)) : Prop := ∀ f ∈ fs, ∀ x y, x < n → y < n → f x y < n

def oth (f : Nat → Nat → Nat) (n : Nat) (P : Nat → Nat) (k i : Nat) : Nat := if k = 0 then f (i / n) (P (i % n)) else f (P (i / n)) (i % n)

def Wp (f : Nat → Nat → Nat) (n : Nat) (P : Nat → Nat) (k i : Nat) : Prop := P (f (i / n) (i % n)) = P (oth f n P k i)

def Cg (n : Nat) (fs : List (Nat → Nat → Nat)) (P : Nat → Nat) : Prop := ∀ f ∈ fs, ∀ k, k < 2 → ∀ i, i < n * n → Wp f n P k i

def Lst (n : Nat) (fs : List (Nat → Nat → Nat)) (P p : Nat → Nat) : Prop := ∀ C, Pt n C → Lep n P C → Cg n fs C → Lep n p C

theorem ix_lt {n i : Nat} (h : i < n * n) : i / n < n ∧ i % n < n := by
  have hn : 0 < n := by
    rcases Nat.eq_zero_or_pos n with e | e
    · subst e; omega
    · exact e
  exact ⟨Nat.div_lt_of_lt_mul h, Nat.mod_lt _ hn⟩

theorem ix_mk {n x y : Nat} (hx : x < n) (hy : y < n) : x * n + y < n * n ∧ (x * n + y) / n = x ∧ (x * n + y) % n = y := by
  have hn : 0 < n := by omega
  refine ⟨?_, ?_, ?_⟩
  · have := Nat.mul_le_mul_right n (show x + 1 ≤ n by omega)
    rw [Nat.succ_mul] at this; omega
  · rw [Nat.mul_comm, Nat.mul_add_div hn, Nat.div_eq_of_lt hy, Nat.add_zero]
  · rw [Nat.mul_comm, Nat.mul_add_mod, Nat.mod_eq_of_lt hy]

theorem ix_eq (n i : Nat) : i / n * n + i % n = i := by
  rw [Nat.mul_comm]; exact Nat.div_add_mod i n

theorem flt_get {n : Nat} {f : Nat → Nat → Int} (hn : 0 < n) : ∀ {k i : Nat}, i < k * n → (flt n f k)[i]? = some (f (i / n) (i % n))
  | 0, i, h => by omega
  | k + 1, i, h => by
    have hl := flt_len n f k
    rw [Nat.succ_mul] at h
    unfold flt
    by_cases c : i < k * n
    · rw [List.getElem?_append_left (by omega)]; exact flt_get hn c
    · obtain ⟨j, rfl⟩ : ∃ j, i = n * k + j := ⟨i - n * k, by rw [Nat.mul_comm n k]; omega⟩
      have h2 : j < n := by rw [Nat.mul_comm n k] at h; omega
      have h3 : n * k + j - k * n = j := by rw [Nat.mul_comm n k]; omega
      have e1 : (n * k + j) / n = k := by rw [Nat.mul_add_div hn, Nat.div_eq_of_lt h2, Nat.add_zero]
      have e2 : (n * k + j) % n = j := by rw [Nat.mul_add_mod, Nat.mod_eq_of_lt h2]
      rw [List.getElem?_append_right (by omega), hl, h3, get_mkR h2, e1, e2]

theorem ops_len (n : Nat) (fs : List (Nat → Nat → Nat)) : (opsL n fs).length = fs.length := List.length_map _

theorem ops_at {n : Nat} {fs : List (Nat → Nat → Nat)} {t : Nat} (h : t < fs.length) : atI (opsL n fs) (t : Int) = some ((2 : Int), flt n (fun x y => ((fs[t] x y : Nat) : Int)) n, ()) := by
  rw [atI_lt _ t (by rw [ops_len]; exact h)]; simp [opsL]

theorem tab_at {n : Nat} {f : Nat → Nat → Nat} {i : Nat} (h : i < n * n) : atI (flt n (fun x y => ((f x y : Nat) : Int)) n) (i : Int) = some ((f (i / n) (i % n) : Nat) : Int) := by
  have hn : 0 < n := Nat.lt_of_le_of_lt (Nat.zero_le _) (ix_lt h).1
  rw [atI_nat, flt_get hn h]

theorem quo_nat {a b : Nat} (hb : 0 < b) (ha : a ≤ 4611686018427387904) : quoI IntKind.i64 (a : Int) (b : Int) = some ((a / b : Nat) : Int) := by
  unfold quoI
  rw [if_neg (by omega), Int.tdiv_eq_ediv_of_nonneg (by omega), ← Int.natCast_ediv, wr (by have := Int.natCast_nonneg (a / b); omega) (by have := Nat.div_le_self a b; generalize a / b = c at *; omega)]

theorem rem_nat {a b : Nat} (hb : 0 < b) : remI (a : Int) (b : Int) = some ((a % b : Nat) : Int) := by
  unfold remI
  rw [if_neg (by omega), Int.tmod_eq_emod_of_nonneg (by omega), ← Int.natCast_emod]

theorem cg_xy {n : Nat} {fs : List (Nat → Nat → Nat)} {C : Nat → Nat} (h : Cg n fs C) {f : Nat → Nat → Nat} (hf : f ∈ fs) {x y : Nat} (hx : x < n) (hy : y < n) : C (f x y) = C (f x (C y)) ∧ C (f x y) = C (f (C x) y) := by
  obtain ⟨h1, h2, h3⟩ := ix_mk hx hy
  have a := h f hf 0 (by omega) _ h1
  have b := h f hf 1 (by omega) _ h1
  unfold Wp oth at a b
  rw [h2, h3] at a b
  exact ⟨a, b⟩

theorem oth_lt {n : Nat} {fs : List (Nat → Nat → Nat)} (ho : Opn n fs) {f : Nat → Nat → Nat} (hf : f ∈ fs) {P : Nat → Nat} (hp : Pt n P) {k i : Nat} (hi : i < n * n) : oth f n P k i < n := by
  obtain ⟨h1, h2⟩ := ix_lt hi
  unfold oth
  split
  · exact ho f hf _ _ h1 (hp.lt h2)
  · exact ho f hf _ _ (hp.lt h1) h2

theorem pair_ok {n : Nat} {fs : List (Nat → Nat → Nat)} {f : Nat → Nat → Nat} (hf : f ∈ fs) {p C : Nat → Nat} (hp : Pt n p) (hl : Lep n p C) (hc : Cg n fs C) {k i : Nat} (hi : i < n * n) : C (f (i / n) (i % n)) = C (oth f n p k i) := by
  obtain ⟨h1, h2⟩ := ix_lt hi
  unfold oth
  split
  · rw [(cg_xy hc hf h1 h2).1, (cg_xy hc hf h1 (hp.lt h2)).1, hl _ h2]
  · rw [(cg_xy hc hf h1 h2).2, (cg_xy hc hf (hp.lt h1) h2).2, hl _ h1]

structure StW (n : Nat) (X : Nat → Nat) (b : Bool) (p : Nat → Nat) : Prop where
  eq : b = false → ∀ x, x < n → p x = X x
  lt : b = true → cls n p < cls n X

theorem uni_ne {n : Nat} {p : Nat → Nat} {v w : Nat} (hv : v < n) (hw : w < n) (e : p v ≠ p w) : ∃ x, x < n ∧ uni p v w x ≠ p x := by
  rcases Nat.lt_or_ge (p v) (p w) with c | c
  · refine ⟨w, hw, ?_⟩
    unfold uni
    rw [Nat.max_eq_right (by omega), Nat.min_eq_left (by omega), if_pos rfl]; omega
  · refine ⟨v, hv, ?_⟩
    unfold uni
    rw [Nat.max_eq_left (by omega), Nat.min_eq_right (by omega), if_pos rfl]; omega

theorem StW.step_ne {n : Nat} {X p : Nat → Nat} {b : Bool} (hp : Pt n p) (h : StW n X b p) {v w : Nat} (hv : v < n) (hw : w < n) (e : p v ≠ p w) : StW n X true (uni p v w) where
  eq := fun h => absurd h (by simp)
  lt := fun _ => by
    obtain ⟨x, hx, hne⟩ := uni_ne hv hw e
    have h1 := cls_lt hp (uni_pt hp hv hw) (le_uni hp v w) hx hne
    cases b with
    | true => have := h.lt rfl; omega
    | false => have := cls_congr (h.eq rfl); omega

theorem StW.step_eq {n : Nat} {X p : Nat → Nat} {b : Bool} (h : StW n X b p) {v w : Nat} (e : p v = p w) : StW n X b (uni p v w) where
  eq := fun hb x hx => by rw [uni_same e]; exact h.eq hb x hx
  lt := fun hb => by rw [cls_congr (Q := p) fun x _ => uni_same e x]; exact h.lt hb

structure IVp (n : Nat) (fs : List (Nat → Nat → Nat)) (P p0 : Nat → Nat) (D : Prop) (l : List Int) (was ch : Bool) (p : Nat → Nat) : Prop where
  form : l = ptL n p
  pt : Pt n p
  le : Lep n P p
  lst : Lst n fs P p
  st : StW n P was p
  st0 : StW n p0 ch p
  done : ch = false → D

theorem IVp.step_ne {n : Nat} {fs : List (Nat → Nat → Nat)} {P p0 p : Nat → Nat} {D D' : Prop} {l : List Int} {was ch : Bool} (ho : Opn n fs) (h : IVp n fs P p0 D l was ch p) {f : Nat → Nat → Nat} (hf : f ∈ fs) {k i : Nat} (hi : i < n * n) (hP : Pt n P) (e : p (f (i / n) (i % n)) ≠ p (oth f n p k i)) :
    IVp n fs P p0 D' (ptL n (uni p (f (i / n) (i % n)) (oth f n p k i))) true true (uni p (f (i / n) (i % n)) (oth f n p k i)) := by
  obtain ⟨h1, h2⟩ := ix_lt hi
  have hv := ho f hf _ _ h1 h2
  have hw := oth_lt ho hf h.pt (k := k) hi
  exact ⟨rfl, uni_pt h.pt hv hw, Lep.trans hP h.le (le_uni h.pt _ _), fun C hC hl hc => uni_le h.pt (h.lst C hC hl hc) hv hw (pair_ok hf h.pt (h.lst C hC hl hc) hc hi), h.st.step_ne h.pt hv hw e, h.st0.step_ne h.pt hv hw e, fun c => absurd c (by simp)⟩

theorem IVp.step_eq {n : Nat} {fs : List (Nat → Nat → Nat)} {P p0 p : Nat → Nat} {D D' : Prop} {l : List Int} {was ch : Bool} (ho : Opn n fs) (h : IVp n fs P p0 D l was ch p) {f : Nat → Nat → Nat} (hf : f ∈ fs) {k i : Nat} (hi : i < n * n) (hP : Pt n P) (e : p (f (i / n) (i % n)) = p (oth f n p k i)) (hD : D → Wp f n p0 k i → D') :
    IVp n fs P p0 D' (ptL n (uni p (f (i / n) (i % n)) (oth f n p k i))) was ch (uni p (f (i / n) (i % n)) (oth f n p k i)) := by
  obtain ⟨h1, h2⟩ := ix_lt hi
  have hv := ho f hf _ _ h1 h2
  have hw := oth_lt ho hf h.pt (k := k) hi
  refine ⟨rfl, uni_pt h.pt hv hw, Lep.trans hP h.le (le_uni h.pt _ _), fun C hC hl hc => uni_le h.pt (h.lst C hC hl hc) hv hw (pair_ok hf h.pt (h.lst C hC hl hc) hc hi), h.st.step_eq e, h.st0.step_eq e, fun c => hD (h.done c) ?_⟩
  have hq := h.st0.eq c
  have eo : oth f n p0 k i = oth f n p k i := by unfold oth; rw [hq _ h1, hq _ h2]
  unfold Wp
  rw [eo, ← hq _ hv, ← hq _ hw, e]

def PassD (n : Nat) (fs : List (Nat → Nat → Nat)) (p0 : Nat → Nat) (t k i : Nat) : Prop :=
  (∀ j, j < t → ∀ h : j < fs.length, ∀ k, k < 2 → ∀ i, i < n * n → Wp fs[j] n p0 k i) ∧ (∀ h : t < fs.length, (∀ k', k' < k → ∀ i, i < n * n → Wp fs[t] n p0 k' i) ∧ ∀ i', i' < i → Wp fs[t] n p0 k i')

structure ClR (n : Nat) (fs : List (Nat → Nat → Nat)) (P q : Nat → Nat) (was : Bool) : Prop where
  pt : Pt n q
  le : Lep n P q
  lst : Lst n fs P q
  cg : Cg n fs q
  st : StW n P was q

def muL (l : List Int) : Nat := ((List.range l.length).filter fun (i : Nat) => decide (l[i]? = some (i : Int))).length

theorem muL_eq (n : Nat) (p : Nat → Nat) : muL (ptL n p) = cls n p := by
  unfold muL cls fl
  rw [ptL_len]
  congr 1
  refine List.filter_congr fun x hx => ?_
  rw [show (ptL n p)[x]? = some ((p x : Nat) : Int) from get_mkR (List.mem_range.1 hx)]
  refine decide_eq_decide.2 ⟨fun h => by have := Option.some.inj h; omega, fun h => by rw [h]⟩

theorem idx0 {n i : Nat} {p : Nat → Nat} (h10 : n ≤ 10) (hi : i < n * n) (hp : Pt n p) : IntKind.i64.wrap ((i : Int) + IntKind.i64.wrap (IntKind.i64.wrap (((p (i % n) : Nat) : Int) - ((i % n : Nat) : Int)) * ((n ^ 0 : Nat) : Int))) = ((i / n * n + p (i % n) : Nat) : Int) := by
  obtain ⟨h1, h2⟩ := ix_lt hi
  have hnn := nn_le (i := n) (n := n) h10 h10
  have e := ix_eq n i
  have l := hp.lo _ h2
  rw [show ((n ^ 0 : Nat) : Int) = 1 by simp, Int.mul_one]
  generalize i / n * n = a at *
  generalize i % n = b at *
  rw [wr (n := ((p b : Nat) : Int) - (b : Int)) (by omega) (by omega), wr (n := ((p b : Nat) : Int) - (b : Int)) (by omega) (by omega), wr (by omega) (by omega)]
  omega

theorem idx1 {n i : Nat} {p : Nat → Nat} (h10 : n ≤ 10) (hi : i < n * n) (hp : Pt n p) : IntKind.i64.wrap ((i : Int) + IntKind.i64.wrap (IntKind.i64.wrap (((p (i / n) : Nat) : Int) - ((i / n : Nat) : Int)) * ((n ^ 1 : Nat) : Int))) = ((p (i / n) * n + i % n : Nat) : Int) := by
  obtain ⟨h1, h2⟩ := ix_lt hi
  have hnn := nn_le (i := n) (n := n) h10 h10
  have e := ix_eq n i
  have l := hp.lo _ h1
  have l2 := Nat.mul_le_mul_right n l
  rw [Nat.pow_one]
  generalize i / n = a at *
  generalize i % n = b at *
  rw [wr (n := ((p a : Nat) : Int) - (a : Int)) (by omega) (by omega), Int.sub_mul, ← Int.natCast_mul, ← Int.natCast_mul]
  generalize p a * n = c at *
  generalize a * n = d at *
  rw [wr (n := (c : Int) - (d : Int)) (by omega) (by omega), wr (by omega) (by omega)]
  omega

theorem close_step {n : Nat} {fs : List (Nat → Nat → Nat)} (h10 : n ≤ 10) (ho : Opn n fs) {p : Nat → Nat} (hp : Pt n p) {f : Nat → Nat → Nat} (hf : f ∈ fs) {k i : Nat} (hk : k < 2) (hi : i < n * n) {R : Type} (G : List Int × Bool → Option R) :
    ((quoI IntKind.i64 (i : Int) ((n ^ k : Nat) : Int)).bind fun xq3 => (remI xq3 (n : Int)).bind fun xq4 => (atI (ptL n p) xq4).bind fun _ => ((ptL n p)[xq4.toNat]?).bind fun xq5 =>
      (atI (flt n (fun x y => ((f x y : Nat) : Int)) n) (IntKind.i64.wrap ((i : Int) + (IntKind.i64.wrap ((IntKind.i64.wrap (xq5 - xq4)) * ((n ^ k : Nat) : Int)))))).bind fun xq6 =>
      (zz65 big (ptL n p) ((f (i / n) (i % n) : Nat) : Int) xq6).bind fun rq7 => G (rq7.2.1, rq7.1)) =
    G (ptL n (uni p (f (i / n) (i % n)) (oth f n p k i)), decide (p (f (i / n) (i % n)) ≠ p (oth f n p k i))) := by
  obtain ⟨h1, h2⟩ := ix_lt hi
  have hn : 0 < n := Nat.lt_of_le_of_lt (Nat.zero_le _) h1
  have hnn := nn_le (i := n) (n := n) h10 h10
  have hv := ho f hf _ _ h1 h2
  have hw := oth_lt ho hf hp (k := k) hi
  have g : ∀ z, z < n → atI (ptL n p) (z : Int) = some ((p z : Nat) : Int) := fun z hz => atI_mkR hz
  have g2 : ∀ z, z < n → (ptL n p)[z]? = some ((p z : Nat) : Int) := fun z hz => get_mkR hz
  have hu := unite_eq (n := n) (P := p) (show n ≤ 1048576 by omega) hv hw
  have hk2 : k = 0 ∨ k = 1 := by omega
  rcases hk2 with rfl | rfl
  · obtain ⟨a1, a2, a3⟩ := ix_mk h1 (hp.lt h2)
    rw [quo_nat (by simp) (by omega)]
    simp only [Option.bind_some, rem_nat hn, Nat.pow_zero, Nat.div_one, g _ h2, Int.toNat_natCast, g2 _ h2]
    have e := idx0 h10 hi hp
    simp only [Nat.pow_zero] at e
    rw [e, tab_at a1, a2, a3, Option.bind_some]
    unfold oth at hu ⊢
    simp only [if_pos] at hu ⊢
    rw [hu, Option.bind_some]
  · obtain ⟨a1, a2, a3⟩ := ix_mk (hp.lt h1) h2
    rw [quo_nat (by rw [Nat.pow_one]; exact hn) (by omega)]
    have em : i / n % n = i / n := Nat.mod_eq_of_lt h1
    simp only [Option.bind_some, rem_nat hn, Nat.pow_one, em, g _ h1, Int.toNat_natCast, g2 _ h1]
    have e := idx1 h10 hi hp
    simp only [Nat.pow_one] at e
    rw [e, tab_at a1, a2, a3, Option.bind_some]
    unfold oth at hu ⊢
    simp only [if_neg (show ¬ (1 : Nat) = 0 by omega)] at hu ⊢
    rw [hu, Option.bind_some]

theorem close_eq {n : Nat} {fs : List (Nat → Nat → Nat)} (h10 : n ≤ 10) (hn : 0 < n) (hfl : fs.length ≤ 10) (ho : Opn n fs) {P : Nat → Nat} (hP : Pt n P) : ∃ was q, zz66 big (algL n fs) (ptL n P) = some (was, (ptL n q, ())) ∧ ClR n fs P q was := by
  have hnn := nn_le (i := n) (n := n) h10 h10
  unfold zz66 zz66_s
  refine zz66_v3 (Q := fun r => ∃ was q, r = some (was, (ptL n q, ())) ∧ ClR n fs P q was) (fun l was ch => muL l * 2 + if ch then 1 else 0)
    (fun l was ch => ∃ p, l = ptL n p ∧ Pt n p ∧ Lep n P p ∧ Lst n fs P p ∧ StW n P was p ∧ (ch = false → Cg n fs p)) ?_ _ _ _ ?_ ⟨P, rfl, hP, Lep.refl hP, fun C _ hl _ => hl, ⟨fun _ _ _ => rfl, fun h => absurd h (by simp)⟩, fun h => absurd h (by simp)⟩
  · rintro rc l was ch ⟨p0, rfl, hp0, hle0, hlst0, hst0, hcg0⟩ ih
    unfold zz66_b3
    cases ch with
    | false => exact ⟨was, p0, rfl, hp0, hle0, hlst0, hcg0 rfl, hst0⟩
    | true =>
      rw [cond_true]
      refine zz66_q6 (Q := fun r => ∃ was q, r = some (was, (ptL n q, ())) ∧ ClR n fs P q was) fs.length (fun t l was ch => ∃ p, IVp n fs P p0 (PassD n fs p0 t 0 0) l was ch p) (by omega) ?_ ?_ 0 (by omega) _ _ _ ⟨p0, rfl, hp0, hle0, hlst0, hst0, ⟨fun _ _ _ => rfl, fun h => absurd h (by simp)⟩, fun _ => ⟨fun j hj => by omega, fun _ => ⟨fun j hj => by omega, fun j hj => by omega⟩⟩⟩
      · rintro rc2 t l was ch ht hv ih2
        have hm := List.getElem_mem ht
        unfold zz66_b6
        simp only [algL, ops_len, cdt (show (t : Int) < (fs.length : Int) by omega), ops_at ht, Option.bind_some]
        refine zz66_q10 (Q := fun r => ∃ was q, r = some (was, (ptL n q, ())) ∧ ClR n fs P q was) 2 (fun k l was ch step => step = ((n ^ k : Nat) : Int) ∧ ∃ p, IVp n fs P p0 (PassD n fs p0 t k 0) l was ch p) (by omega) ?_ ?_ 0 (by omega) _ _ _ _ ⟨by simp, hv⟩
        · rintro rc3 k l was ch step hk ⟨rfl, hv⟩ ih3
          unfold zz66_b10
          simp only [cdt (show (k : Int) < (2 : Int) by omega), flt_len]
          refine zz66_q13 (Q := fun r => ∃ was q, r = some (was, (ptL n q, ())) ∧ ClR n fs P q was) (n * n) (fun i l was ch => ∃ p, IVp n fs P p0 (PassD n fs p0 t k i) l was ch p) (by omega) ?_ ?_ 0 (by omega) _ _ _ hv
          · rintro rc4 i l was ch hi ⟨p, hv⟩ ih4
            have hl := hv.form
            subst hl
            unfold zz66_b13
            rw [cdt (by omega), tab_at hi, Option.bind_some]
            refine (congrArg (fun r => ∃ was q, r = some (was, (ptL n q, ())) ∧ ClR n fs P q was) (close_step h10 ho hv.pt hm hk hi fun r => cond r.2 (rc4 r.1 (algL n fs) true true _ _ _ _ _ _ _ _ (IntKind.i64.wrap ((i : Int) + (1 : Int)))) (rc4 r.1 (algL n fs) was ch _ _ _ _ _ _ _ _ (IntKind.i64.wrap ((i : Int) + (1 : Int)))))).mpr ?_
            rw [wr1 (by omega)]
            by_cases e : p (fs[t] (i / n) (i % n)) = p (oth fs[t] n p k i)
            · simp only [e, ne_eq, not_true_eq_false, decide_false, cond_false]
              have := hv.step_eq ho hm hi hP e (D' := PassD n fs p0 t k (i + 1)) (fun d w => ⟨d.1, fun h => ⟨(d.2 h).1, all_lt_succ.2 ⟨(d.2 h).2, w⟩⟩⟩)
              exact ih4 _ _ _ ⟨_, this⟩
            · simp only [ne_eq, e, not_false_eq_true, decide_true, cond_true]
              exact ih4 _ _ _ ⟨_, hv.step_ne ho hm hi hP e⟩
          · rintro rc4 l was ch ⟨p, hv⟩
            unfold zz66_b13
            rw [cdf (by omega), zz66_a13]
            have e1 : IntKind.i64.wrap (((n ^ k : Nat) : Int) * (n : Int)) = ((n ^ (k + 1) : Nat) : Int) := by
              have : n ^ k * n ≤ 100 := by
                have hk2 : k = 0 ∨ k = 1 := by omega
                rcases hk2 with rfl | rfl
                · simp; omega
                · rw [Nat.pow_one]; exact hnn
              rw [← Int.natCast_mul, ← Nat.pow_succ, wr (by have := Int.natCast_nonneg (n ^ (k + 1)); omega) (by rw [Nat.pow_succ]; generalize n ^ k * n = c at *; omega)]
            rw [show IntKind.i64.wrap (((n ^ k : Nat) : Int) * ((n : Int), opsL n fs, ()).1) = _ from e1, wr1 (by omega)]
            exact ih3 _ _ _ _ ⟨rfl, p, hv.form, hv.pt, hv.le, hv.lst, hv.st, hv.st0, fun c => ⟨(hv.done c).1, fun h => ⟨all_lt_succ.2 ⟨((hv.done c).2 h).1, ((hv.done c).2 h).2⟩, fun j hj => by omega⟩⟩⟩
        · rintro rc3 l was ch step ⟨rfl, p, hv⟩
          unfold zz66_b10
          rw [cdf (by simp), zz66_a10, wr1 (by omega)]
          have e2 := ih2 _ _ _ ⟨p, hv.form, hv.pt, hv.le, hv.lst, hv.st, hv.st0, fun c => ⟨all_lt_succ.2 ⟨(hv.done c).1, fun h => ((hv.done c).2 h).1⟩, fun h => ⟨fun j hj => by omega, fun j hj => by omega⟩⟩⟩
          simp only [algL, ops_len] at e2
          exact e2
      · rintro rc2 l was ch ⟨p, hv⟩
        unfold zz66_b6
        simp only [algL, ops_len, cdf (show ¬ (fs.length : Int) < (fs.length : Int) by omega), zz66_a6]
        refine ih _ _ _ ⟨p, hv.form, hv.pt, hv.le, hv.lst, hv.st, fun c => ?_⟩ ?_
        · intro f hf k hk i hi
          obtain ⟨j, hj, rfl⟩ := List.getElem_of_mem hf
          have w := (hv.done c).1 j hj hj k hk i hi
          obtain ⟨i1, i2⟩ := ix_lt hi
          have hq := hv.st0.eq c
          have eo : oth fs[j] n p0 k i = oth fs[j] n p k i := by unfold oth; rw [hq _ i1, hq _ i2]
          unfold Wp at w ⊢
          rw [eo, ← hq _ (ho _ hf _ _ i1 i2), ← hq _ (oth_lt ho hf hv.pt hi)] at w
          exact w
        · rw [hv.form, muL_eq, muL_eq]
          cases ch with
          | true => have := hv.st0.lt rfl; simp; omega
          | false => have := cls_congr (hv.st0.eq rfl); simp; omega
  · rw [muL_eq]; have := cls_le (n := n) P; simp; omega

theorem args2_eq {n i : Nat} (h10 : n ≤ 10) (hi : i < n * n) : zz26 big (n : Int) 2 (i : Int) = some ([((i / n : Nat) : Int), ((i % n : Nat) : Int)], ()) := by
  obtain ⟨h1, h2⟩ := ix_lt hi
  have hn : 0 < n := Nat.lt_of_le_of_lt (Nat.zero_le _) h1
  have hnn := nn_le (i := n) (n := n) h10 h10
  unfold zz26 zz26_s
  rw [show mkI (0 : Int) 2 = some [0, 0] from rfl, Option.bind_some, Option.bind_some, cdt (by omega), wr (by omega) (by omega)]
  refine zz26_w3 (fun _ _ k => (k + 1).toNat) (fun a o k => (k = 1 ∧ a = (i : Int) ∧ o = [0, 0]) ∨ (k = 0 ∧ a = ((i / n : Nat) : Int) ∧ o = [0, ((i % n : Nat) : Int)]) ∨ (k = -1 ∧ o = [((i / n : Nat) : Int), ((i % n : Nat) : Int)])) ?_ _ _ _ (by simp) (.inl ⟨by omega, rfl, rfl⟩)
  rintro rc a o k (⟨rfl, rfl, rfl⟩ | ⟨rfl, rfl, rfl⟩ | ⟨rfl, rfl⟩) ih
  · unfold zz26_b3
    rw [cdt (by omega), rem_nat hn, quo_nat hn (by omega)]
    simp only [Option.bind_some]
    rw [show atI [(0 : Int), 0] (1 : Int) = some 0 from rfl, Option.bind_some, show ([(0 : Int), 0])[((1 : Int)).toNat]? = some 0 from rfl, Option.bind_some, wr (by omega) (by omega)]
    exact ih _ _ _ (.inr (.inl ⟨by omega, rfl, rfl⟩)) (by simp)
  · unfold zz26_b3
    rw [cdt (by omega), rem_nat hn, quo_nat hn (by generalize i / n = c at *; omega)]
    simp only [Option.bind_some]
    rw [show atI [(0 : Int), ((i % n : Nat) : Int)] (0 : Int) = some 0 from rfl, Option.bind_some, show ([(0 : Int), ((i % n : Nat) : Int)])[((0 : Int)).toNat]? = some 0 from rfl, Option.bind_some, wr (by omega) (by omega), Nat.mod_eq_of_lt h1]
    exact ih _ _ _ (.inr (.inr ⟨by omega, rfl⟩)) (by simp)
  · unfold zz26_b3
    rw [cdf (by omega), zz26_a3]

theorem value2_eq {n : Nat} {fs : List (Nat → Nat → Nat)} (h10 : n ≤ 10) {t x y : Nat} (ht : t < fs.length) (hx : x < n) (hy : y < n) : zz27 big (algL n fs) (t : Int) [(x : Int), (y : Int)] = some (((fs[t] x y : Nat) : Int), ()) := by
  have hnn := nn_le (i := n) (n := n) h10 h10
  obtain ⟨a1, a2, a3⟩ := ix_mk hx hy
  unfold zz27 zz27_s
  refine zz27_h3 2 (fun k v => v = if k = 0 then (0 : Int) else if k = 1 then (x : Int) else ((x * n + y : Nat) : Int)) (by omega) ?_ ?_ 0 (by omega) _ (by simp)
  · intro rc k v hk hv ih
    have hk2 : k = 0 ∨ k = 1 := by omega
    unfold zz27_b3
    rcases hk2 with rfl | rfl
    · rw [if_pos rfl] at hv
      subst hv
      rw [cdt (by simp), show atI [(x : Int), (y : Int)] ((0 : Nat) : Int) = some (x : Int) from rfl, Option.bind_some, Int.zero_mul, wr (n := 0) (by omega) (by omega), wr (by omega) (by omega), wr1 (by omega)]
      exact ih _ (by simp)
    · rw [if_neg (by omega), if_pos rfl] at hv
      subst hv
      rw [cdt (by simp), show atI [(x : Int), (y : Int)] ((1 : Nat) : Int) = some (y : Int) from rfl, Option.bind_some, show (x : Int) * (algL n fs).1 = ((x * n : Nat) : Int) from (Int.natCast_mul x n).symm, wr (n := ((x * n : Nat) : Int)) (by omega) (by omega), wr (by omega) (by omega), wr1 (by omega)]
      exact ih _ (by simp)
  · intro rc v hv
    rw [if_neg (by omega), if_neg (by omega)] at hv
    unfold zz27_b3
    rw [cdf (by simp), zz27_a3, show (algL n fs).2.1 = opsL n fs from rfl, ops_at ht, Option.bind_some, hv, tab_at a1, a2, a3]
    rfl

structure PuR (n : Nat) (fs : List (Nat → Nat → Nat)) (P : Nat → Nat) (D : Prop) (O : Nat → Nat) : Prop where
  pt : Pt n O
  le : Lep n P O
  lst : Lst n fs P O
  done : D

def PuD (n : Nat) (fs : List (Nat → Nat → Nat)) (P O : Nat → Nat) (t i k : Nat) : Prop :=
  (∀ j, j < t → ∀ h : j < fs.length, ∀ k, k < 2 → ∀ i, i < n * n → O (fs[j] (i / n) (i % n)) = O (oth fs[j] n P (1 - k) i)) ∧
  (∀ h : t < fs.length, (∀ i', i' < i → ∀ k, k < 2 → O (fs[t] (i' / n) (i' % n)) = O (oth fs[t] n P (1 - k) i')) ∧ ∀ k', k' < k → O (fs[t] (i / n) (i % n)) = O (oth fs[t] n P (1 - k') i))

theorem PuR.step {n : Nat} {fs : List (Nat → Nat → Nat)} {P O : Nat → Nat} (ho : Opn n fs) (hP : Pt n P) {t i k : Nat} (ht : t < fs.length) (hi : i < n * n) (h : PuR n fs P (PuD n fs P O t i k) O) :
    PuR n fs P (PuD n fs P (uni O (fs[t] (i / n) (i % n)) (oth fs[t] n P (1 - k) i)) t i (k + 1)) (uni O (fs[t] (i / n) (i % n)) (oth fs[t] n P (1 - k) i)) := by
  obtain ⟨h1, h2⟩ := ix_lt hi
  have hm := List.getElem_mem ht
  have hv := ho _ hm _ _ h1 h2
  have hw := oth_lt ho hm hP (k := 1 - k) hi
  have hle := le_uni h.pt (fs[t] (i / n) (i % n)) (oth fs[t] n P (1 - k) i)
  have keep : ∀ {g : Nat → Nat → Nat} {k' i' : Nat}, g ∈ fs → i' < n * n → O (g (i' / n) (i' % n)) = O (oth g n P k' i') → uni O (fs[t] (i / n) (i % n)) (oth fs[t] n P (1 - k) i) (g (i' / n) (i' % n)) = uni O (fs[t] (i / n) (i % n)) (oth fs[t] n P (1 - k) i) (oth g n P k' i') := fun hg hi' e =>
    hle.ker (ho _ hg _ _ (ix_lt hi').1 (ix_lt hi').2) (oth_lt ho hg hP hi') e
  exact ⟨uni_pt h.pt hv hw, Lep.trans hP h.le hle, fun C hC hl hc => uni_le h.pt (h.lst C hC hl hc) hv hw (pair_ok hm hP hl hc hi),
    ⟨fun j hj hjl k hk i' hi' => keep (List.getElem_mem hjl) hi' (h.done.1 j hj hjl k hk i' hi'), fun hh => ⟨fun i' hi' k hk => keep hm (by omega) ((h.done.2 ht).1 i' hi' k hk), all_lt_succ.2 ⟨fun k' hk' => keep hm hi ((h.done.2 ht).2 k' hk'), uni_eq _ _ _⟩⟩⟩⟩

theorem push_eq {n : Nat} {fs : List (Nat → Nat → Nat)} (h10 : n ≤ 10) (hfl : fs.length ≤ 10) (ho : Opn n fs) {P : Nat → Nat} (hP : Pt n P) : ∃ O, zz28 big (algL n fs) (ptL n P) = some (ptL n O, ()) ∧ PuR n fs P (PuD n fs P O fs.length 0 0) O := by
  have hnn := nn_le (i := n) (n := n) h10 h10
  have g : ∀ z, z < n → atI (ptL n P) (z : Int) = some ((P z : Nat) : Int) := fun z hz => atI_mkR hz
  have hown : zz25 (ptL n P) = some (ptL n P, ()) := by
    unfold zz25 zz25_s appI
    rw [if_pos (by rw [ptL_len]; simp; omega)]; rfl
  unfold zz28 zz28_s
  rw [hown, Option.bind_some]
  refine zz28_q3 (Q := fun r => ∃ O, r = some (ptL n O, ()) ∧ PuR n fs P (PuD n fs P O fs.length 0 0) O) fs.length (fun t l => ∃ O, l = ptL n O ∧ PuR n fs P (PuD n fs P O t 0 0) O) (by omega) ?_ ?_ 0 (by omega) _ ⟨P, rfl, hP, Lep.refl hP, fun C _ hl _ => hl, fun j hj => by omega, fun _ => ⟨fun j hj => by omega, fun j hj => by omega⟩⟩
  · rintro rc t l ht hv ih
    unfold zz28_b3
    rw [show (algL n fs).2.1 = opsL n fs from rfl, ops_len, cdt (by omega)]
    refine zz28_q6 (Q := fun r => ∃ O, r = some (ptL n O, ()) ∧ PuR n fs P (PuD n fs P O fs.length 0 0) O) (n * n) (fun i l => ∃ O, l = ptL n O ∧ PuR n fs P (PuD n fs P O t i 0) O) (by omega) ?_ ?_ 0 (by omega) _ hv
    · rintro rc2 i l hi hv2 ih2
      obtain ⟨h1, h2⟩ := ix_lt hi
      unfold zz28_b6
      have e0 : atI (algL n fs).2.1 (t : Int) = some ((2 : Int), flt n (fun x y => ((fs[t] x y : Nat) : Int)) n, ()) := ops_at ht
      have e1 : zz26 big (algL n fs).1 ((2 : Int), flt n (fun x y => ((fs[t] x y : Nat) : Int)) n, ()).1 (i : Int) = some ([((i / n : Nat) : Int), ((i % n : Nat) : Int)], ()) := args2_eq h10 hi
      rw [e0, Option.bind_some, cdt (by show (i : Int) < ((flt n (fun x y => ((fs[t] x y : Nat) : Int)) n).length : Int); rw [flt_len]; omega), Option.bind_some, e1, Option.bind_some]
      refine zz28_q10 (Q := fun r => ∃ O, r = some (ptL n O, ()) ∧ PuR n fs P (PuD n fs P O fs.length 0 0) O) 2 (fun k l => ∃ O, l = ptL n O ∧ PuR n fs P (PuD n fs P O t i k) O) (by omega) ?_ ?_ 0 (by omega) _ hv2
      · rintro rc3 k l hk ⟨O, rfl, hO⟩ ih3
        have hm := List.getElem_mem ht
        have hv3 := ho _ hm _ _ h1 h2
        have hw := oth_lt ho hm hP (k := 1 - k) hi
        have hst := hO.step ho hP ht hi
        have hu := specUnite_eq (n := n) (P := O) (show n ≤ 1048576 by omega) hv3 hw
        have hown2 : zz25 [((i / n : Nat) : Int), ((i % n : Nat) : Int)] = some ([((i / n : Nat) : Int), ((i % n : Nat) : Int)], ()) := by
          unfold zz25 zz25_s appI
          rw [if_pos (by simp)]; rfl
        unfold zz28_b10
        have hk2 : k = 0 ∨ k = 1 := by omega
        rcases hk2 with rfl | rfl
        · have a0 : atI [((i / n : Nat) : Int), ((i % n : Nat) : Int)] ((0 : Nat) : Int) = some ((i / n : Nat) : Int) := rfl
          have a1 : ([((i / n : Nat) : Int), ((i % n : Nat) : Int)])[((0 : Nat) : Int).toNat]? = some ((i / n : Nat) : Int) := rfl
          have a2 : ([((i / n : Nat) : Int), ((i % n : Nat) : Int)]).set ((0 : Nat) : Int).toNat ((P (i / n) : Nat) : Int) = [((P (i / n) : Nat) : Int), ((i % n : Nat) : Int)] := rfl
          rw [cdt (by simp), hown2, Option.bind_some, a0, Option.bind_some, a1, Option.bind_some, g _ h1, Option.bind_some, Option.bind_some, Option.bind_some, show (algL n fs).2.1 = opsL n fs from rfl, ops_at ht, Option.bind_some, tab_at hi, Option.bind_some, a2, value2_eq h10 ht (hP.lt h1) h2, Option.bind_some]
          rw [show oth fs[t] n P (1 - 0) i = fs[t] (P (i / n)) (i % n) from rfl] at hu hst
          rw [hu, Option.bind_some, wr1 (by omega)]
          exact ih3 _ ⟨_, rfl, hst⟩
        · have a0 : atI [((i / n : Nat) : Int), ((i % n : Nat) : Int)] ((1 : Nat) : Int) = some ((i % n : Nat) : Int) := rfl
          have a1 : ([((i / n : Nat) : Int), ((i % n : Nat) : Int)])[((1 : Nat) : Int).toNat]? = some ((i % n : Nat) : Int) := rfl
          have a2 : ([((i / n : Nat) : Int), ((i % n : Nat) : Int)]).set ((1 : Nat) : Int).toNat ((P (i % n) : Nat) : Int) = [((i / n : Nat) : Int), ((P (i % n) : Nat) : Int)] := rfl
          rw [cdt (by simp), hown2, Option.bind_some, a0, Option.bind_some, a1, Option.bind_some, g _ h2, Option.bind_some, Option.bind_some, Option.bind_some, show (algL n fs).2.1 = opsL n fs from rfl, ops_at ht, Option.bind_some, tab_at hi, Option.bind_some, a2, value2_eq h10 ht h1 (hP.lt h2), Option.bind_some]
          rw [show oth fs[t] n P (1 - 1) i = fs[t] (i / n) (P (i % n)) from rfl] at hu hst
          rw [hu, Option.bind_some, wr1 (by omega)]
          exact ih3 _ ⟨_, rfl, hst⟩
      · rintro rc3 l ⟨O, rfl, hO⟩
        unfold zz28_b10
        rw [cdf (by simp), zz28_a10, wr1 (by omega)]
        refine ih2 _ ⟨O, rfl, hO.pt, hO.le, hO.lst, hO.done.1, fun h => ⟨all_lt_succ.2 ⟨(hO.done.2 h).1, (hO.done.2 h).2⟩, fun j hj => by omega⟩⟩
    · rintro rc2 l ⟨O, rfl, hO⟩
      unfold zz28_b6
      simp only [show (algL n fs).2.1 = opsL n fs from rfl, ops_at ht, Option.bind_some, flt_len, cdf (show ¬ ((n * n : Nat) : Int) < ((n * n : Nat) : Int) by omega)]
      rw [zz28_a6, wr1 (by omega)]
      refine ih _ ⟨O, rfl, hO.pt, hO.le, hO.lst, all_lt_succ.2 ⟨hO.done.1, fun h k hk i hi => (hO.done.2 h).1 i hi k hk⟩, fun _ => ⟨fun j hj => by omega, fun j hj => by omega⟩⟩
  · rintro rc l ⟨O, rfl, hO⟩
    unfold zz28_b3
    rw [show (algL n fs).2.1 = opsL n fs from rfl, ops_len, cdf (by omega), zz28_a3]
    exact ⟨O, rfl, hO⟩

theorem push_cg {n : Nat} {fs : List (Nat → Nat → Nat)} (ho : Opn n fs) {P O : Nat → Nat} (hP : Pt n P) (hO : PuR n fs P (PuD n fs P O fs.length 0 0) O) : (∀ x, x < n → O x = P x) ↔ Cg n fs P := by
  constructor
  · intro e f hf k hk i hi
    obtain ⟨j, hj, rfl⟩ := List.getElem_of_mem hf
    have w := hO.done.1 j hj hj (1 - k) (by omega) i hi
    rw [show 1 - (1 - k) = k by omega, e _ (ho _ hf _ _ (ix_lt hi).1 (ix_lt hi).2), e _ (oth_lt ho hf hP hi)] at w
    exact w
  · intro hc x hx
    exact (Lep.eq hP hO.pt hO.le (hO.lst P hP (Lep.refl hP) hc) hx).symm

theorem cls_pos {n : Nat} {P : Nat → Nat} (hn : 0 < n) (hP : Pt n P) : 0 < cls n P := by
  have : (0 : Nat) ∈ fl n fun x => decide (P x = x) := fl_mem.2 ⟨hn, decide_eq_true (by have := hP.lo 0 hn; omega)⟩
  exact List.length_pos_of_mem this

structure LeastC (n : Nat) (fs : List (Nat → Nat → Nat)) (P O : Nat → Nat) : Prop where
  pt : Pt n O
  le : Lep n P O
  lst : Lst n fs P O
  cg : Cg n fs O

theorem LeastC.eq {n : Nat} {fs : List (Nat → Nat → Nat)} {P O O' : Nat → Nat} (h : LeastC n fs P O) (h' : LeastC n fs P O') : ptL n O = ptL n O' :=
  ptL_congr fun x hx => Lep.eq h.pt h'.pt (h.lst _ h'.pt h'.le h'.cg) (h'.lst _ h.pt h.le h.cg) hx

theorem specClose_eq {n : Nat} {fs : List (Nat → Nat → Nat)} (h10 : n ≤ 10) (hn : 0 < n) (hfl : fs.length ≤ 10) (ho : Opn n fs) {P : Nat → Nat} (hP : Pt n P) : ∃ O, zz29 big (algL n fs) (ptL n P) = some (ptL n O, ()) ∧ LeastC n fs P O := by
  unfold zz29 zz29_s
  refine zz29_q2 (Q := fun r => ∃ O, r = some (ptL n O, ()) ∧ LeastC n fs P O) n (fun i l => ∃ O, l = ptL n O ∧ Pt n O ∧ Lep n P O ∧ Lst n fs P O ∧ (Cg n fs O ∨ cls n O + i ≤ n)) (by omega) ?_ ?_ 0 (by omega) _ ⟨P, rfl, hP, Lep.refl hP, fun C _ hl _ => hl, .inr (by have := cls_le (n := n) P; omega)⟩
  · rintro rc i l hi ⟨O, rfl, h1, h2, h3, h4⟩ ih
    obtain ⟨O', e, hO'⟩ := push_eq h10 hfl ho h1
    unfold zz29_b2
    rw [show (algL n fs).1 = (n : Int) from rfl, cdt (by omega), e, Option.bind_some, wr1 (by omega)]
    refine ih _ ⟨O', rfl, hO'.pt, Lep.trans hP h2 hO'.le, fun C hC hl hc => hO'.lst C hC (h3 C hC hl hc) hc, ?_⟩
    have hcg : Cg n fs O → Cg n fs O' := fun hc => by
      have heq := (push_cg ho h1 hO').2 hc
      intro f hf k hk i hi
      have w := hc f hf k hk i hi
      have eo : oth f n O' k i = oth f n O k i := by unfold oth; rw [heq _ (ix_lt hi).1, heq _ (ix_lt hi).2]
      unfold Wp at w ⊢
      rw [eo, heq _ (ho _ hf _ _ (ix_lt hi).1 (ix_lt hi).2), heq _ (oth_lt ho hf h1 hi), w]
    rcases h4 with h4 | h4
    · exact .inl (hcg h4)
    · by_cases hc : Cg n fs O
      · exact .inl (hcg hc)
      · have hne : ∃ x, x < n ∧ O' x ≠ O x := by
          by_cases q : ∃ x, x < n ∧ O' x ≠ O x
          · exact q
          · exact absurd ((push_cg ho h1 hO').1 fun x hx => Classical.byContradiction fun e => q ⟨x, hx, e⟩) hc
        obtain ⟨x, hx, hne⟩ := hne
        have := cls_lt h1 hO'.pt hO'.le hx hne
        exact .inr (by omega)
  · rintro rc l ⟨O, rfl, h1, h2, h3, h4⟩
    unfold zz29_b2
    rw [show (algL n fs).1 = (n : Int) from rfl, cdf (by omega), zz29_a2]
    refine ⟨O, rfl, h1, h2, h3, ?_⟩
    rcases h4 with h4 | h4
    · exact h4
    · have := cls_pos hn h1; omega

abbrev latF (n : Nat) (le : Nat → Nat → Bool) : List (Nat → Nat → Nat) := [mt n le, mt n (du le)]

theorem latF_op {n : Nat} {le : Nat → Nat → Bool} (h : LatP n le) : Opn n (latF n le) := by
  intro f hf x y hx hy
  simp only [List.mem_cons, List.not_mem_nil, or_false] at hf
  rcases hf with rfl | rfl
  · exact h.mlt hx hy
  · exact jlt h hx hy

theorem lat_pos {n : Nat} {le : Nat → Nat → Bool} (h : LatP n le) : 0 < n := Nat.lt_of_le_of_lt (Nat.zero_le _) (bt_lt h)

def conB (n : Nat) (le : Nat → Nat → Bool) (P : Nat → Nat) (j : Nat) : Bool := decide (P j = P (star n le j))

def conL (n : Nat) (le : Nat → Nat → Bool) (P : Nat → Nat) (S : List Nat) : List Nat := S.filter (conB n le P)

theorem conL_take {n : Nat} {le : Nat → Nat → Bool} {P : Nat → Nat} {S : List Nat} {i : Nat} (h : i < S.length) : conL n le P (S.take (i + 1)) = if P S[i] = P (star n le S[i]) then conL n le P (S.take i) ++ [S[i]] else conL n le P (S.take i) := by
  unfold conL
  rw [List.take_succ_eq_append_getElem h, List.filter_append, List.filter_cons, List.filter_nil]
  unfold conB
  split <;> simp_all

theorem conL_len (n : Nat) (le : Nat → Nat → Bool) (P : Nat → Nat) (S : List Nat) : (conL n le P S).length ≤ S.length := List.length_filter_le _ _

theorem star_lt {n : Nat} {le : Nat → Nat → Bool} {j : Nat} (hi : irr n le j = true) : star n le j < n := by
  unfold irr at hi
  rw [decide_eq_true_eq] at hi
  unfold star
  cases e : fl n fun x => cov n le x j with
  | nil => rw [e] at hi; simp at hi
  | cons a l => exact (fl_mem.1 (show a ∈ fl n fun x => cov n le x j by rw [e]; exact List.mem_cons_self)).1

theorem irreducibles_eq {n : Nat} {le : Nat → Nat → Bool} (hn : n ≤ 1048576) : zz56 (some (lat n le)) = some (cs (fl n fun j => irr n le j), ()) := by
  unfold zz56 zz56_s
  rw [Option.bind_some, lat1, those_lattice_irreducibles_c1 (mkR_len n _) hn (P := fun j => irr n le j)]
  · rfl
  · intro i hi
    unfold zz54 zz54_s
    rw [Option.bind_some, lat1, lowerCovers_eq hn hi, Option.bind_some, cs_len]
    unfold irr
    congr 2
    exact decide_eq_decide.2 (by omega)

theorem contracted_eq {n : Nat} {le : Nat → Nat → Bool} {P : Nat → Nat} (hn : n ≤ 1048576) : zz69 big (some (lat n le)) (ptL n P) = some (cs (conL n le P (fl n fun j => irr n le j)), ()) := by
  have g : ∀ z, z < n → atI (ptL n P) (z : Int) = some ((P z : Nat) : Int) := fun z hz => atI_mkR hz
  have hl0 := fl_len n fun j => irr n le j
  unfold zz69 zz69_s
  rw [irreducibles_eq hn, Option.bind_some, cs_len]
  refine zz69_h3 (fl n fun j => irr n le j).length (fun i l => l = cs (conL n le P ((fl n fun j => irr n le j).take i))) (by omega) ?_ ?_ 0 (by omega) _ rfl
  · intro rc i l hi hv ih
    have hm := fl_mem.1 (List.getElem_mem hi)
    have hc := conL_take (n := n) (le := le) (P := P) hi
    have hl := conL_len n le P ((fl n fun j => irr n le j).take i)
    rw [List.length_take] at hl
    unfold zz69_b3
    simp only [cdt (show (i : Int) < ((fl n fun j => irr n le j).length : Int) by omega), atI_cs hi, Int.toNat_natCast, get_cs hi, Option.bind_some, g _ hm.1, star_eq hn hm.1 hm.2, g _ (star_lt hm.2), wr1 (show i ≤ 4611686018427387904 by omega)]
    by_cases c : P (fl n fun j => irr n le j)[i] = P (star n le (fl n fun j => irr n le j)[i])
    · rw [cdt (congrArg Nat.cast c), app1 (by rw [hv, cs_len]; omega), Option.bind_some]
      exact ih _ (by rw [hv, hc, if_pos c, cs_append]; rfl)
    · rw [cdf (show ¬ ((P (fl n fun j => irr n le j)[i] : Nat) : Int) = ((P (star n le (fl n fun j => irr n le j)[i]) : Nat) : Int) by omega)]
      exact ih _ (by rw [hv, hc, if_neg c])
  · intro rc l hv
    rw [List.take_length] at hv
    unfold zz69_b3
    rw [cdf (by omega), zz69_a3, hv]

theorem specContracted_eq {n : Nat} {le : Nat → Nat → Bool} {P : Nat → Nat} (hn : n ≤ 1048576) : zz31 big (pos n le) (ptL n P) = some (cs (conL n le P (fl n fun j => irr n le j)), ()) := by
  have g : ∀ z, z < n → atI (ptL n P) (z : Int) = some ((P z : Nat) : Int) := fun z hz => atI_mkR hz
  have hl0 := fl_len n fun j => irr n le j
  unfold zz31 zz31_s
  rw [specIrr_eq hn, Option.bind_some]
  refine zz31_h4 (fl n fun j => irr n le j).length (fun i l => l = cs (conL n le P ((fl n fun j => irr n le j).take i))) (by omega) ?_ ?_ 0 (by omega) _ rfl
  · intro rc i l hi hv ih
    have hm := fl_mem.1 (List.getElem_mem hi)
    have hc := conL_take (n := n) (le := le) (P := P) hi
    have hl := conL_len n le P ((fl n fun j => irr n le j).take i)
    rw [List.length_take] at hl
    unfold zz31_b4
    simp only [cs_len, cdt (show (i : Int) < ((fl n fun j => irr n le j).length : Int) by omega), atI_cs hi, Int.toNat_natCast, get_cs hi, Option.bind_some, g _ hm.1, specStar_eq hn hm.1 hm.2, g _ (star_lt hm.2), wr1 (show i ≤ 4611686018427387904 by omega)]
    by_cases c : P (fl n fun j => irr n le j)[i] = P (star n le (fl n fun j => irr n le j)[i])
    · rw [cdt (congrArg Nat.cast c), app1 (by rw [hv, cs_len]; omega), Option.bind_some]
      exact ih _ (by rw [hv, hc, if_pos c, cs_append]; rfl)
    · rw [cdf (show ¬ ((P (fl n fun j => irr n le j)[i] : Nat) : Int) = ((P (star n le (fl n fun j => irr n le j)[i]) : Nat) : Int) by omega)]
      exact ih _ (by rw [hv, hc, if_neg c])
  · intro rc l hv
    rw [List.take_length] at hv
    unfold zz31_b4
    rw [cs_len, cdf (by omega), zz31_a4, hv]

theorem id_pt (n : Nat) : Pt n (fun x => x) := ⟨fun x _ => Nat.le_refl x, fun x _ => rfl⟩

def genP (n : Nat) (le : Nat → Nat → Bool) (S : List Nat) : Nat → Nat := S.foldl (fun P j => uni P (star n le j) j) fun x => x

theorem genP_snoc (n : Nat) (le : Nat → Nat → Bool) (S : List Nat) (j : Nat) : genP n le (S ++ [j]) = uni (genP n le S) (star n le j) j := by unfold genP; rw [List.foldl_append]; rfl

theorem genP_pt {n : Nat} {le : Nat → Nat → Bool} {S : List Nat} (hS : ∀ j ∈ S, j < n ∧ irr n le j = true) : Pt n (genP n le S) := by
  suffices hh : ∀ (S : List Nat) (P : Nat → Nat), Pt n P → (∀ j ∈ S, j < n ∧ irr n le j = true) → Pt n (S.foldl (fun P j => uni P (star n le j) j) P) from hh S _ (id_pt n) hS
  intro S
  induction S with
  | nil => intro P hP _; exact hP
  | cons j S ih => intro P hP hS; exact ih _ (uni_pt hP (star_lt (hS j List.mem_cons_self).2) (hS j List.mem_cons_self).1) fun k hk => hS k (List.mem_cons_of_mem _ hk)

noncomputable def lcO (n : Nat) (fs : List (Nat → Nat → Nat)) (P : Nat → Nat) : Nat → Nat := @dite _ (∃ O, LeastC n fs P O) (Classical.propDecidable _) (fun h => Classical.choose h) fun _ => P

theorem lcO_spec {n : Nat} {fs : List (Nat → Nat → Nat)} {P O : Nat → Nat} (h : LeastC n fs P O) : LeastC n fs P (lcO n fs P) := by
  unfold lcO
  rw [dif_pos ⟨O, h⟩]
  exact Classical.choose_spec (p := fun O => LeastC n fs P O) ⟨O, h⟩

theorem lcO_eq {n : Nat} {fs : List (Nat → Nat → Nat)} {P O : Nat → Nat} (h : LeastC n fs P O) : ptL n O = ptL n (lcO n fs P) := h.eq (lcO_spec h)

theorem latClose {n : Nat} {le : Nat → Nat → Bool} (h : LatP n le) {P : Nat → Nat} (hP : Pt n P) : ∃ was, zz66 big (latAlg n le) (ptL n P) = some (was, (ptL n (lcO n (latF n le) P), ())) := by
  obtain ⟨was, q, e, hq⟩ := close_eq (fs := latF n le) h.le10 (lat_pos h) (by simp) (latF_op h) hP
  have hl : LeastC n (latF n le) P q := ⟨hq.pt, hq.le, hq.lst, hq.cg⟩
  exact ⟨was, by rw [← lcO_eq hl]; exact e⟩

theorem latCloseS {n : Nat} {le : Nat → Nat → Bool} (h : LatP n le) {P : Nat → Nat} (hP : Pt n P) : zz29 big (latAlg n le) (ptL n P) = some (ptL n (lcO n (latF n le) P), ()) := by
  obtain ⟨O, e, hO⟩ := specClose_eq (fs := latF n le) h.le10 (lat_pos h) (by simp) (latF_op h) hP
  rw [← lcO_eq hO]; exact e

theorem identityOf_eq {n : Nat} (hn : n ≤ 1048576) : zz64 big (n : Int) = some (ptL n fun x => x, ()) := by
  unfold zz64 zz64_s
  rw [mkI_mkR (by omega), Option.bind_some, Option.bind_some, cdt (by omega), mkR_len]
  refine zz64_h3 n (fun i l => l = mkR n fun x => if x < i then (x : Int) else 0) (by omega) ?_ ?_ 0 (by omega) _ (mkR_congr fun x _ => by rw [if_neg (by omega)])
  · rintro rc i l hi rfl ih
    unfold zz64_b3
    rw [cdt (by omega), atI_mkR hi, Option.bind_some, Int.toNat_natCast, get_mkR hi, Option.bind_some, wr1 (by omega)]
    refine ih _ ?_
    rw [mkR_set]
    refine mkR_congr fun x hx => ?_
    by_cases c : x = i
    · rw [if_pos c, if_pos (by omega), c]
    · rw [if_neg c]
      by_cases d : x < i
      · rw [if_pos d, if_pos (by omega)]
      · rw [if_neg d, if_neg (by omega)]
  · rintro rc l rfl
    unfold zz64_b3
    rw [cdf (by omega), zz64_a3, show (mkR n fun x => if x < n then (x : Int) else 0) = ptL n fun x => x from mkR_congr fun x hx => by rw [if_pos hx]]

theorem specIdentity_eq {n : Nat} (hn : n ≤ 1048576) : zz21 big (n : Int) = some (ptL n fun x => x, ()) := by
  unfold zz21 zz21_s
  refine zz21_h3 n (fun i l => l = ptL i fun x => x) (by omega) ?_ ?_ 0 (by omega) _ rfl
  · rintro rc i l hi rfl ih
    unfold zz21_b3
    rw [cdt (by omega), app1 (by rw [ptL_len]; omega), Option.bind_some, wr1 (by omega)]
    exact ih _ (by unfold ptL; rw [mkR_succ])
  · rintro rc l rfl
    unfold zz21_b3
    rw [cdf (by omega), zz21_a3]

def prs (n : Nat) (le : Nat → Nat → Bool) (S : List Nat) : List P2 := S.map fun (j : Nat) => ((star n le j : Int), (j : Int), ())

theorem congOf_eq {n : Nat} {le : Nat → Nat → Bool} (h : LatP n le) {S : List Nat} (hS : ∀ j ∈ S, j < n ∧ irr n le j = true) (hl : S.length ≤ 1048576) : zz67 big (latAlg n le) (prs n le S) = some (ptL n (lcO n (latF n le) (genP n le S)), ()) := by
  have h10 := h.le10
  have hpl : (prs n le S).length = S.length := List.length_map _
  unfold zz67 zz67_s
  rw [show (latAlg n le).1 = (n : Int) from rfl, identityOf_eq (by omega), Option.bind_some, hpl]
  refine zz67_h3 S.length (fun i l => l = ptL n (genP n le (S.take i))) (by omega) ?_ ?_ 0 (by omega) _ rfl
  · rintro rc i l hi rfl ih
    have hm := hS _ (List.getElem_mem hi)
    have hat : atI (prs n le S) (i : Int) = some ((star n le S[i] : Int), (S[i] : Int), ()) := by
      rw [atI_lt _ i (by rw [hpl]; exact hi)]; simp [prs]
    unfold zz67_b3
    rw [cdt (by omega), hat, Option.bind_some, unite_eq (by omega) (star_lt hm.2) hm.1, Option.bind_some, wr1 (by omega)]
    exact ih _ (by rw [List.take_succ_eq_append_getElem hi, genP_snoc])
  · rintro rc l rfl
    obtain ⟨was, e⟩ := latClose h (genP_pt hS)
    unfold zz67_b3
    rw [cdf (by omega), zz67_a3, List.take_length, e, Option.bind_some]

theorem congOfSet_eq {n : Nat} {le : Nat → Nat → Bool} (h : LatP n le) {S : List Nat} (hS : ∀ j ∈ S, j < n ∧ irr n le j = true) (hl : S.length ≤ 1048576) : zz68 big (some (lat n le)) (cs S) = some (ptL n (lcO n (latF n le) (genP n le S)), ()) := by
  have h10 := h.le10
  unfold zz68 zz68_s
  rw [cs_len]
  refine zz68_h3 S.length (fun i l => l = prs n le (S.take i)) (by omega) ?_ ?_ 0 (by omega) _ rfl
  · rintro rc i l hi rfl ih
    have hm := hS _ (List.getElem_mem hi)
    have hpl : (prs n le (S.take i)).length ≤ S.length := by unfold prs; rw [List.length_map, List.length_take]; omega
    unfold zz68_b3
    rw [cdt (by omega), atI_cs hi, Option.bind_some, star_eq (by omega) hm.1 hm.2, Option.bind_some, app1 (by omega), Option.bind_some, wr1 (by omega)]
    refine ih _ ?_
    unfold prs
    rw [List.take_succ_eq_append_getElem hi, List.map_append]; rfl
  · rintro rc l rfl
    unfold zz68_b3
    rw [cdf (by omega), zz68_a3, List.take_length, algebra_eq h, Option.bind_some, congOf_eq h hS hl, Option.bind_some]

noncomputable def frc (n : Nat) (le : Nat → Nat → Bool) (j : Nat) : List Nat := conL n le (lcO n (latF n le) (genP n le [j])) (fl n fun j => irr n le j)

theorem frc_len (n : Nat) (le : Nat → Nat → Bool) (j : Nat) : (frc n le j).length ≤ n := Nat.le_trans (conL_len _ _ _ _) (fl_len _ _)

theorem forcedBy_eq {n : Nat} {le : Nat → Nat → Bool} (h : LatP n le) {j : Nat} (hj : j < n) (hi : irr n le j = true) : zz70 (some (lat n le)) [(j : Int)] = some (cs (frc n le j), ()) := by
  have h10 := h.le10
  unfold zz70 zz70_s
  rw [show [(j : Int)] = cs [j] from rfl, congOfSet_eq h (S := [j]) (by intro k hk; simp at hk; subst hk; exact ⟨hj, hi⟩) (by simp), Option.bind_some, contracted_eq (by omega), Option.bind_some]
  rfl

theorem specForced_eq {n : Nat} {le : Nat → Nat → Bool} (h : LatP n le) {j : Nat} (hj : j < n) (hi : irr n le j = true) : zz32 (pos n le) (j : Int) = some (cs (frc n le j), ()) := by
  have h10 := h.le10
  have hP : Pt n (genP n le [j]) := genP_pt (by intro k hk; simp at hk; subst hk; exact ⟨hj, hi⟩)
  unfold zz32 zz32_s
  rw [specAlgebra_eq h, Option.bind_some, specStar_eq (by omega) hj hi, Option.bind_some]
  unfold zz30 zz30_s
  rw [show (latAlg n le).1 = (n : Int) from rfl, specIdentity_eq (by omega), Option.bind_some, specUnite_eq (by omega) (star_lt hi) hj, Option.bind_some, show ptL n (uni (fun x => x) (star n le j) j) = ptL n (genP n le [j]) from rfl, latCloseS h hP, Option.bind_some, Option.bind_some, specContracted_eq (by omega), Option.bind_some]
  rfl

theorem shr_nat {b i : Nat} (hb : b ≤ 4611686018427387904) (hi : i ≤ 10) : shrI IntKind.i64 (b : Int) (i : Int) = some ((b / 2 ^ i : Nat) : Int) := by
  unfold shrI
  rw [if_neg (by omega), Int.toNat_natCast, show min i IntKind.i64.bits = i from Nat.min_eq_left (by have : IntKind.i64.bits = 64 := rfl; omega)]
  have e : ((2 : Int) ^ i) = ((2 ^ i : Nat) : Int) := by simp
  rw [e, Int.fdiv_eq_ediv_of_nonneg _ (Int.natCast_nonneg _), Int.natCast_ediv]

theorem and1_nat {x : Nat} (hx : x ≤ 4611686018427387904) : bitI .and IntKind.i64 (x : Int) 1 = ((x % 2 : Nat) : Int) := by
  unfold bitI
  show IntKind.i64.wrap ((BitVec.ofInt 64 (x : Int) &&& BitVec.ofInt 64 1).toNat : Int) = _
  rw [BitVec.toNat_and, BitVec.toNat_ofInt, BitVec.toNat_ofInt]
  have e1 : ((x : Int) % ((2 ^ 64 : Nat) : Int)).toNat = x := by
    rw [show ((2 ^ 64 : Nat) : Int) = 18446744073709551616 from rfl]; omega
  have e2 : ((1 : Int) % ((2 ^ 64 : Nat) : Int)).toNat = 1 := by
    rw [show ((2 ^ 64 : Nat) : Int) = 18446744073709551616 from rfl]; omega
  rw [e1, e2, Nat.and_one_is_mod, wr (by omega) (by omega)]

abbrev bt1 (b i : Nat) : Prop := b / 2 ^ i % 2 = 1

def bsel (S : List Nat) (b : Nat) : Nat → List Nat
  | 0 => []
  | i + 1 => if b / 2 ^ i % 2 = 1 then bsel S b i ++ [S.getD i 0] else bsel S b i

theorem bsel_len (S : List Nat) (b : Nat) : ∀ i, (bsel S b i).length ≤ i
  | 0 => by simp [bsel]
  | i + 1 => by
    have := bsel_len S b i
    unfold bsel; split
    · rw [List.length_append]; simp; omega
    · omega

theorem bsel_mem {S : List Nat} {b x : Nat} : ∀ {i}, x ∈ bsel S b i ↔ ∃ j, j < i ∧ bt1 b j ∧ x = S.getD j 0
  | 0 => by simp [bsel]
  | i + 1 => by
    have ih := bsel_mem (S := S) (b := b) (x := x) (i := i)
    unfold bsel
    by_cases c : b / 2 ^ i % 2 = 1
    · rw [if_pos c, List.mem_append, ih, List.mem_singleton]
      constructor
      · rintro (⟨j, h1, h2, h3⟩ | h)
        · exact ⟨j, by omega, h2, h3⟩
        · exact ⟨i, by omega, c, h⟩
      · rintro ⟨j, h1, h2, h3⟩
        by_cases e : j = i
        · subst e; exact .inr h3
        · exact .inl ⟨j, by omega, h2, h3⟩
    · rw [if_neg c, ih]
      constructor
      · rintro ⟨j, h1, h2, h3⟩; exact ⟨j, by omega, h2, h3⟩
      · rintro ⟨j, h1, h2, h3⟩
        have : j ≠ i := fun e => c (e ▸ h2)
        exact ⟨j, by omega, h2, h3⟩

theorem bsel_sub {S : List Nat} {b : Nat} : ∀ {i}, i ≤ S.length → (bsel S b i).Sublist (S.take i)
  | 0, _ => by simp [bsel]
  | i + 1, h => by
    have ih := bsel_sub (S := S) (b := b) (i := i) (by omega)
    rw [List.take_succ_eq_append_getElem (by omega)]
    unfold bsel; split
    · rw [getD_get (by omega)]
      exact List.Sublist.append ih (List.Sublist.refl _)
    · exact ih.trans (List.sublist_append_left _ _)

theorem isPart_eq2 (a b : List Int) (ha : a.length ≤ 4294967296) (hb : b.length ≤ 4294967296) : zz72 big a b = some (tv (∀ x ∈ a, x ∈ b), ()) := by
  unfold zz72 zz72_s
  refine zz72_h2 a.length (fun i => ∀ x ∈ a.take i, x ∈ b) (by omega) ?_ ?_ 0 (by omega) (by simp)
  · intro rc i hi hv ih
    unfold zz72_b2
    rw [cdt (by omega), atI_lt a i hi, Option.bind_some, hasNot_eq b _ hb, Option.bind_some, wr1 (by omega)]
    by_cases c : a[i] ∈ b
    · rw [cdf (fun h => h c)]
      exact ih ((all_take_succ hi).2 ⟨hv, c⟩)
    · rw [cdt c, tv_f fun h => c (h _ (List.getElem_mem hi))]
  · intro rc hv
    rw [List.take_length] at hv
    unfold zz72_b2
    rw [cdf (by omega), zz72_a2, tv_t hv]

structure FSp (n : Nat) (le : Nat → Nat → Bool) (s : List Int) : Prop where
  mem : ∀ x ∈ s, ∃ j : Nat, x = (j : Int) ∧ j < n ∧ irr n le j = true ∧ ∀ y ∈ cs (frc n le j), y ∈ s
  rise : risingB s = true

theorem isForcedSet_eq {n : Nat} {le : Nat → Nat → Bool} (h : LatP n le) (s : List Int) (hs : s.length ≤ 1048576) : zz73 big (some (lat n le)) s = some (tv (FSp n le s), ()) := by
  have h10 := h.le10
  unfold zz73 zz73_s
  refine zz73_h2 s.length (fun i => ∀ x ∈ s.take i, ∃ j : Nat, x = (j : Int) ∧ j < n ∧ irr n le j = true ∧ ∀ y ∈ cs (frc n le j), y ∈ s) (by omega) ?_ ?_ 0 (by omega) (by simp)
  · intro rc i hi hv ih
    unfold zz73_b2
    rw [cdt (by omega), atI_lt s i hi, Option.bind_some, irrIs_eq (by omega), Option.bind_some]
    cases hj : inB n s[i] && irr n le (s[i]).toNat with
    | false =>
      rw [Bool.not_false, cond_true, tv_f]
      intro hh
      obtain ⟨j, e, h1, h2, _⟩ := hh.mem _ (List.getElem_mem hi)
      rw [e, Int.toNat_natCast, h2, Bool.and_true] at hj
      unfold inB at hj
      rw [decide_eq_false_iff_not] at hj
      omega
    | true =>
      rw [Bool.and_eq_true] at hj
      obtain ⟨j, h1, e⟩ := inB_form hj.1
      rw [e, Int.toNat_natCast] at hj
      have hl := frc_len n le j
      rw [Bool.not_true, cond_false, e, forcedBy_eq h h1 hj.2, Option.bind_some, isPart_eq2 _ _ (by rw [cs_len]; omega) (by omega), Option.bind_some, wr1 (by omega)]
      by_cases c : ∀ x ∈ cs (frc n le j), x ∈ s
      · rw [tv_t c, Bool.not_true, cond_false]
        exact ih ((all_take_succ hi).2 ⟨hv, j, e, h1, hj.2, c⟩)
      · rw [tv_f c, Bool.not_false, cond_true, tv_f]
        intro hh
        obtain ⟨j', e', _, _, h4⟩ := hh.mem _ (List.getElem_mem hi)
        rw [e] at e'
        have : j = j' := by omega
        subst this
        exact c h4
  · intro rc hv
    rw [List.take_length] at hv
    unfold zz73_b2
    rw [cdf (by omega), zz73_a2, rises_eq _ (by omega), Option.bind_some]
    congr 2
    symm
    exact tv_eq ⟨fun e => ⟨hv, e⟩, fun e => e.rise⟩

theorem l5Less_eq (a b : List Int) (h : a.length = b.length) (h2 : a.length ≤ 4294967296) : zz33 big a b = some (lx a b, ()) := by
  unfold zz33 zz33_s
  refine zz33_h2 a.length (fun i => lx a b = lx (a.drop i) (b.drop i)) (by omega) ?_ ?_ 0 (by omega) rfl
  · intro rc i hi hv ih
    have hib : i < b.length := by omega
    unfold zz33_b2
    simp only [cdt (show (i : Int) < (a.length : Int) by omega), atI_lt a i hi, atI_lt b i hib, Option.bind_some, wr1 (show i ≤ 4611686018427387904 by omega)]
    rw [lx_drop hi hib] at hv
    by_cases e : a[i] = b[i]
    · rw [cdf (by simp [e])]
      rw [if_neg (by simp [e])] at hv
      exact ih hv
    · rw [cdt e, hv, if_pos e]
  · intro rc hv
    rw [List.drop_length] at hv
    unfold zz33_b2
    rw [cdf (by omega), zz33_a2, hv]; rfl

def irs (n : Nat) (le : Nat → Nat → Bool) : List Nat := fl n fun j => irr n le j

theorem specIrs_eq {n : Nat} {le : Nat → Nat → Bool} (hn : n ≤ 1048576) : zz18 big (pos n le) = some (cs (irs n le), ()) := specIrr_eq hn

def goodS (n : Nat) (le : Nat → Nat → Bool) (b k : Nat) : Prop := ∀ i, i < k → bt1 b i → ∀ x ∈ cs (frc n le ((irs n le).getD i 0)), x ∈ cs (bsel (irs n le) b (irs n le).length)

inductive Wd where
  | v (n : Int)
  | op (g : Int) (a b : Wd)

def Wd.fl : Wd → List Int
  | .v n => [n]
  | .op g a b => g :: (a.fl ++ b.fl)

def Wd.hd : Wd → Int
  | .v n => n
  | .op g _ _ => g

def Wd.ok : Wd → Prop
  | .v n => 0 ≤ n ∧ n < 5
  | .op g a b => (g = -1 ∨ g = -2) ∧ a.ok ∧ b.ok

theorem Wd.pos : ∀ A : Wd, 0 < A.fl.length
  | .v n => by simp [Wd.fl]
  | .op g a b => by simp [Wd.fl]

theorem fl_inj : ∀ (A B : Wd), A.ok → B.ok → ∀ (r r' : List Int), A.fl ++ r = B.fl ++ r' → A = B ∧ r = r'
  | .v x, .v y, _, _, r, r', h => by
    simp only [Wd.fl, List.cons_append, List.nil_append, List.cons.injEq] at h
    exact ⟨by rw [h.1], h.2⟩
  | .v x, .op g a b, ha, hb, r, r', h => by
    simp only [Wd.fl, List.cons_append, List.nil_append, List.cons.injEq] at h
    have h1 := ha.1
    have h2 := hb.1
    omega
  | .op g a b, .v x, ha, hb, r, r', h => by
    simp only [Wd.fl, List.cons_append, List.nil_append, List.cons.injEq] at h
    have h1 := ha.1
    have h2 := hb.1
    omega
  | .op g a b, .op g' a' b', ha, hb, r, r', h => by
    simp only [Wd.fl, List.cons_append, List.append_assoc, List.cons.injEq] at h
    obtain ⟨e0, h⟩ := h
    obtain ⟨e1, h⟩ := fl_inj a a' ha.2.1 hb.2.1 _ _ h
    obtain ⟨e2, h⟩ := fl_inj b b' ha.2.2 hb.2.2 _ _ h
    exact ⟨by rw [e0, e1, e2], h⟩

def At (s : List Int) (i : Nat) (A : Wd) : Prop := A.ok ∧ ∃ r, s.drop i = A.fl ++ r

theorem At.lt {s : List Int} {i : Nat} {A : Wd} (h : At s i A) : i + A.fl.length ≤ s.length := by
  obtain ⟨_, r, e⟩ := h
  have := congrArg List.length e
  have := A.pos
  simp only [List.length_drop, List.length_append] at *
  omega

theorem At.head {s : List Int} {i : Nat} {A : Wd} (h : At s i A) : atI s (i : Int) = some A.hd := by
  have hl := h.lt
  have hp := A.pos
  obtain ⟨_, r, e⟩ := h
  rw [atI_nat]
  have : s[i]? = (s.drop i)[0]? := by rw [List.getElem?_drop]; rfl
  rw [this, e]
  cases A <;> simp [Wd.fl, Wd.hd]

theorem lx_cmp : ∀ {a b : List Int}, a.length = b.length → lx a b = decide (cmpL a b < 0)
  | [], [], _ => by simp [lx, cmpL]
  | [], _ :: _, h => by simp at h
  | _ :: _, [], h => by simp at h
  | x :: a, y :: b, h => by
    have ih := lx_cmp (a := a) (b := b) (by simpa using h)
    unfold lx cmpL
    by_cases e : x = y
    · rw [if_neg (by simp [e]), if_pos e]; exact ih
    · rw [if_pos e, if_neg e]
      by_cases l : x < y
      · rw [if_pos l]; simp [l]
      · rw [if_neg l]; simp [l]

theorem lt_len1 {a b : List Int} (h : a.length < b.length) : ltOf cmpT a b = true := by simp [ltOf, cmpT, h]

theorem lt_len2 {a b : List Int} (h : b.length < a.length) : ltOf cmpT a b = false := by
  unfold ltOf cmpT
  rw [if_neg (by omega), if_pos h]; decide

theorem lt_lenE {a b : List Int} (h : a.length = b.length) : ltOf cmpT a b = lx a b := by
  rw [lx_cmp h]
  unfold ltOf cmpT
  rw [if_neg (by omega), if_neg (by omega)]

theorem sort5_fin {ls : List (List Int)} {l : List Int} (hs : SortedL cmpT ls) {m : Nat} (hm : m ≤ ls.length) (h1 : ∀ (j : Nat) (hj : j < ls.length), m ≤ j → ltOf cmpT l ls[j] = true) (h2 : ∀ (hk : 0 < m) , ltOf cmpT l (ls[m - 1]'(by omega)) = false) :
    ls.take m ++ [l] ++ ls.drop m = insBy cmpT l ls := by
  refine sorted_unique cmpT_ok ?_ ?_ (insBy_sorted cmpT_ok l ls hs)
  · refine List.Perm.trans ?_ (insBy_perm l ls).symm
    rw [List.append_assoc, List.singleton_append]
    refine List.perm_middle.trans ?_
    rw [List.take_append_drop]
  · have hs' : SortedL cmpT (ls.take m ++ ls.drop m) := by rw [List.take_append_drop]; exact hs
    obtain ⟨s1, s2, s3⟩ := List.pairwise_append.1 hs'
    have e1 : ∀ x ∈ ls.take m, ltOf cmpT l x = false := fun x hx => by
      obtain ⟨j, hj, rfl⟩ := List.mem_iff_getElem.1 hx
      rw [List.length_take] at hj
      have hm0 : 0 < m := by omega
      rw [List.getElem_take]
      by_cases q : j = m - 1
      · subst q; exact h2 hm0
      · exact lt_ntr cmpT_ok _ _ _ (h2 hm0) ((List.pairwise_iff_getElem.1 hs) j (m - 1) (by omega) (by omega) (by omega))
    have e2 : ∀ x ∈ ls.drop m, ltOf cmpT x l = false := fun x hx => by
      obtain ⟨j, hj, rfl⟩ := List.mem_iff_getElem.1 hx
      rw [List.length_drop] at hj
      rw [List.getElem_drop]
      have := h1 (m + j) (by omega) (by omega)
      cases q : ltOf cmpT ls[m + j] l with
      | false => rfl
      | true => have := lt_tr cmpT_ok _ _ _ this q; rw [lt_irr cmpT_ok] at this; cases this
    unfold SortedL
    rw [List.append_assoc, List.singleton_append, List.pairwise_append]
    refine ⟨s1, List.pairwise_cons.2 ⟨e2, s2⟩, fun x hx y hy => ?_⟩
    rcases List.mem_cons.1 hy with rfl | hy
    · exact e1 x hx
    · exact s3 x hx y hy

theorem sort5_eq (ls : List (List Int)) (l : List Int) (hll : l.length ≤ 4294967296) (h : ls.length ≤ 4294967290) (hs : SortedL cmpT ls) : zz34 big ls l = some (insBy cmpT l ls, ()) := by
  have fin : ∀ k : Nat, k ≤ ls.length → (∀ (j : Nat) (hj : j < ls.length), k ≤ j → ltOf cmpT l ls[j] = true) → (∀ (hk : 0 < k) (hq : k - 1 < ls.length), ltOf cmpT l ls[k - 1] = false) → zz34_a2 ls l (k : Int) = some (insBy cmpT l ls, ()) := by
    intro k hk h1 h2
    have e1 : slI ls 0 (k : Int) = some (ls.take k) := by have := slI_nat ls 0 k (by omega) hk; simpa using this
    have e2 : slI ls (k : Int) (ls.length : Int) = some (ls.drop k) := by
      have := slI_nat ls k ls.length hk (Nat.le_refl _)
      rw [this, List.take_of_length_le (by rw [List.length_drop]; omega)]
    have hl : (ls.take k).length ≤ ls.length := by rw [List.length_take]; omega
    unfold zz34_a2
    rw [e1, Option.bind_some]
    have a1 : appI ([] : List (List Int)) (ls.take k) = some (ls.take k) := by
      unfold appI; rw [if_pos (by simp; omega)]; rfl
    rw [a1, Option.bind_some, app1 (by omega), Option.bind_some, e2, Option.bind_some]
    have a2 : appI (ls.take k ++ [l]) (ls.drop k) = some (ls.take k ++ [l] ++ ls.drop k) := by
      unfold appI
      rw [if_pos (by rw [List.length_append, List.length_drop, List.length_take]; simp; omega)]
    rw [a2, Option.bind_some, sort5_fin hs hk h1 fun q => h2 q (by omega)]
  unfold zz34 zz34_s
  refine zz34_v2 (Q := fun r => r = some (insBy cmpT l ls, ())) (fun k => k.toNat) (fun k => ∃ m : Nat, k = (m : Int) ∧ m ≤ ls.length ∧ ∀ (j : Nat) (hj : j < ls.length), m ≤ j → ltOf cmpT l ls[j] = true) ?_ _ (by omega) ⟨ls.length, rfl, Nat.le_refl _, fun j hj hm => absurd hm (by omega)⟩
  rintro rc k ⟨m, rfl, hm, hgt⟩ ih
  unfold zz34_b2
  by_cases c : m = 0
  · subst c
    rw [cdf (by omega)]
    exact fin 0 (by omega) hgt fun q => absurd q (by omega)
  · have e : IntKind.i64.wrap ((m : Int) - 1) = ((m - 1 : Nat) : Int) := by rw [wr (by omega) (by omega)]; omega
    have hat : atI ls ((m - 1 : Nat) : Int) = some ls[m - 1] := atI_lt ls (m - 1) (by omega)
    have go : ltOf cmpT l ls[m - 1] = true → rc ls l ((m - 1 : Nat) : Int) = some (insBy cmpT l ls, ()) := fun q => ih ((m - 1 : Nat) : Int) ⟨m - 1, rfl, by omega, fun j hj hq => by
      by_cases z : j = m - 1
      · subst z; exact q
      · exact hgt j hj (by omega)⟩ (by omega)
    have stop : ltOf cmpT l ls[m - 1] = false → zz34_a2 ls l (m : Int) = some (insBy cmpT l ls, ()) := fun q => fin m hm hgt fun _ _ => q
    rw [cdt (by omega), e, hat, Option.bind_some]
    by_cases c1 : (l.length : Int) < (ls[m - 1].length : Int)
    · rw [cdt c1]; exact go (lt_len1 (by omega))
    · rw [cdf c1, Option.bind_some]
      by_cases c2 : (l.length : Int) = (ls[m - 1].length : Int)
      · have hle : zz33 big l ls[m - 1] = some (lx l ls[m - 1], ()) := l5Less_eq l ls[m - 1] (by omega) hll
        rw [cdt c2, Option.bind_some, hle, Option.bind_some]
        have hq := lt_lenE (a := l) (b := ls[m - 1]) (by omega)
        cases hx : lx l ls[m - 1] with
        | true => exact go (hq.trans hx)
        | false => exact stop (hq.trans hx)
      · rw [cdf c2]; exact stop (lt_len2 (by omega))

theorem sortBy_snoc (c : List Int → List Int → Int) (l : List (List Int)) (x : List Int) : sortBy c (l ++ [x]) = insBy c x (sortBy c l) := by unfold sortBy; rw [List.foldl_append]; rfl

theorem sortBy_len {c : List Int → List Int → Int} (h : CmpOk c) (l : List (List Int)) : (sortBy c l).length = l.length := (sortBy_perm h l).length_eq

theorem sortBy_mem {c : List Int → List Int → Int} (h : CmpOk c) {l : List (List Int)} {x : List Int} : x ∈ sortBy c l ↔ x ∈ l := (sortBy_perm h l).mem_iff

theorem sortRows_eq (c : List Int → List Int → Int) (l : List (List Int)) (h : l.length ≤ 4294967296) : sortRowsV c l = some ((), (sortBy c l, ())) := by unfold sortRowsV; rw [if_pos h]

def bitp (c i : Nat) : Bool := decide (c / 2 ^ i % 2 = 1)

theorem fl_cut {P : Nat → Bool} {a : Nat} : ∀ {b : Nat}, a ≤ b → (∀ i, a ≤ i → i < b → P i = false) → fl b P = fl a P
  | 0, h, _ => by rw [show a = 0 by omega]
  | b + 1, h, hp => by
    by_cases e : a = b + 1
    · rw [e]
    · rw [fl_succ, if_neg (by rw [hp b (by omega) (by omega)]; simp)]
      exact fl_cut (by omega) fun i h1 h2 => hp i h1 (by omega)

def nbits (c : Nat) : Nat := if c = 0 then 0 else c.log2 + 1

theorem nbits_le {c k : Nat} (hc : c < 2 ^ k) : nbits c ≤ k := by
  unfold nbits
  split
  · omega
  · rename_i h
    have := (Nat.log2_lt h).2 hc
    omega

theorem nbits_pos {c i : Nat} : i < nbits c ↔ 0 < c / 2 ^ i := by
  unfold nbits
  split
  · rename_i h; subst h; simp
  · rename_i h
    rw [Nat.lt_succ_iff, Nat.le_log2 h]
    constructor
    · exact fun q => Nat.div_pos q (Nat.pow_pos (by omega))
    · intro q
      refine Nat.not_lt.1 fun z => ?_
      rw [Nat.div_eq_of_lt z] at q
      omega

theorem bitsOf_eq {c k : Nat} (hk : k ≤ 10) (hc : c < 2 ^ k) : zz57 big (c : Int) = some (cs (fl k (bitp c)), ()) := by
  have hp : 2 ^ k ≤ 1024 := by have := Nat.pow_le_pow_right (n := 2) (by omega) hk; omega
  have hn := nbits_le hc
  have hcut : fl k (bitp c) = fl (nbits c) (bitp c) := fl_cut hn fun i h1 _ => by
    have : ¬ 0 < c / 2 ^ i := fun q => by have := nbits_pos.2 q; omega
    unfold bitp; rw [decide_eq_false]; generalize c / 2 ^ i = z at *; omega
  rw [hcut]
  unfold zz57 zz57_s
  refine zz57_h3 (nbits c) (fun i l => l = cs (fl i (bitp c))) (by omega) ?_ ?_ 0 (by omega) _ rfl
  · rintro rc i l hi rfl ih
    have hl := fl_len i (bitp c)
    have hd := nbits_pos.1 hi
    have hle := Nat.div_le_self c (2 ^ i)
    unfold zz57_b3
    rw [shr_nat (by omega) (by omega), Option.bind_some, cdt (by generalize c / 2 ^ i = z at *; omega), Option.bind_some, and1_nat (by omega), wr1 (by omega)]
    by_cases e : c / 2 ^ i % 2 = 1
    · rw [cdt (show ((c / 2 ^ i % 2 : Nat) : Int) = 1 by rw [e]; rfl), app1 (by rw [cs_len]; omega), Option.bind_some]
      exact ih _ (by rw [fl_t (P := bitp c) (decide_eq_true e)])
    · rw [cdf (show ¬ ((c / 2 ^ i % 2 : Nat) : Int) = 1 from fun q => e (by generalize c / 2 ^ i % 2 = z at *; omega))]
      exact ih _ (by rw [fl_f (P := bitp c) (decide_eq_false e)])
  · rintro rc l rfl
    have hd : ¬ 0 < c / 2 ^ nbits c := fun q => by have := nbits_pos.2 q; omega
    unfold zz57_b3
    rw [shr_nat (by omega) (by omega), Option.bind_some, cdf (by generalize c / 2 ^ nbits c = z at *; omega), zz57_a3]

theorem compose_eq {S L : List Nat} (h : ∀ s ∈ S, s < L.length) (hS : S.length ≤ 1048576) : zz58 big (cs S) (cs L) = some (cs (S.map fun s => L.getD s 0), ()) := by
  unfold zz58 zz58_s
  rw [cs_len, mkI_mkR (by omega), Option.bind_some, Option.bind_some, cdt (by omega)]
  refine zz58_h3 S.length (fun i l => l = mkR S.length fun j => if j < i then ((L.getD (S.getD j 0) 0 : Nat) : Int) else 0) (by omega) ?_ ?_ 0 (by omega) _ (mkR_congr fun x _ => by rw [if_neg (by omega)])
  · rintro rc i l hi rfl ih
    have hs := h _ (List.getElem_mem hi)
    unfold zz58_b3
    rw [cdt (by omega), atI_cs hi, Option.bind_some, atI_cs hs, Option.bind_some, atI_mkR hi, Option.bind_some, Int.toNat_natCast, get_mkR hi, Option.bind_some, wr1 (by omega)]
    refine ih _ ?_
    rw [mkR_set]
    refine mkR_congr fun x hx => ?_
    by_cases c : x = i
    · subst c
      rw [if_pos rfl, if_pos (by omega), getD_get hi, getD_get hs]
    · rw [if_neg c]
      by_cases d : x < i
      · rw [if_pos d, if_pos (by omega)]
      · rw [if_neg d, if_neg (by omega)]
  · rintro rc l rfl
    unfold zz58_b3
    rw [cdf (by omega), zz58_a3]
    congr 2
    refine (eq_mkR (by rw [cs_len, List.length_map]) fun i hi => ?_).symm
    have hi' : i < S.length := by rw [cs_len, List.length_map] at hi; exact hi
    rw [if_pos hi', getD_get hi']
    simp [cs]

theorem bsel_fl (S : List Nat) (c : Nat) : ∀ k, bsel S c k = (fl k (bitp c)).map fun s => S.getD s 0
  | 0 => rfl
  | k + 1 => by
    rw [bsel, fl_succ, bsel_fl S c k]
    by_cases e : c / 2 ^ k % 2 = 1
    · rw [if_pos e, if_pos (show bitp c k = true from decide_eq_true e), List.map_append]; rfl
    · rw [if_neg e, if_neg (by unfold bitp; simp [e])]

theorem goodS_FS {n : Nat} {le : Nat → Nat → Bool} (b : Nat) : goodS n le b (irs n le).length ↔ FSp n le (cs (bsel (irs n le) b (irs n le).length)) := by
  have hpw : (cs (irs n le)).Pairwise (· < ·) := fl_pair n _
  have hsubpw : (cs (bsel (irs n le) b (irs n le).length)).Pairwise (· < ·) := by
    have := (bsel_sub (S := irs n le) (b := b) (Nat.le_refl _)).map (fun x : Nat => (x : Int))
    rw [List.take_length] at this
    exact hpw.sublist this
  constructor
  · intro hg
    refine ⟨fun x hx => ?_, pair_rising hsubpw⟩
    obtain ⟨j, hj, rfl⟩ := List.mem_map.1 hx
    obtain ⟨i, hi, hbi, e⟩ := bsel_mem.1 hj
    have hm := fl_mem.1 (getD_mem hi)
    subst e
    exact ⟨_, rfl, hm.1, hm.2, hg i hi hbi⟩
  · intro h i hi hbt x hx
    have hin : (((irs n le).getD i 0 : Nat) : Int) ∈ cs (bsel (irs n le) b (irs n le).length) := cs_mem.2 (bsel_mem.2 ⟨i, hi, hbt, rfl⟩)
    obtain ⟨j, ej, _, _, h4⟩ := h.mem _ hin
    have : (irs n le).getD i 0 = j := by omega
    rw [this] at hx
    exact h4 x hx

noncomputable def fsL (n : Nat) (le : Nat → Nat → Bool) (c : Nat) : List (List Int) := ((List.range c).filter fun b => tv (goodS n le b (irs n le).length)).map fun b => cs (bsel (irs n le) b (irs n le).length)

theorem fsL_succ (n : Nat) (le : Nat → Nat → Bool) (c : Nat) : fsL n le (c + 1) = if tv (goodS n le c (irs n le).length) = true then fsL n le c ++ [cs (bsel (irs n le) c (irs n le).length)] else fsL n le c := by
  unfold fsL
  rw [List.range_succ, List.filter_append, List.map_append]
  by_cases h : goodS n le c (irs n le).length
  · simp [tv_t h]
  · simp [tv_f h]

theorem fsL_len (n : Nat) (le : Nat → Nat → Bool) (c : Nat) : (fsL n le c).length ≤ c := by
  unfold fsL; rw [List.length_map]; exact Nat.le_trans (List.length_filter_le _ _) (by simp)

theorem fsL_row {n : Nat} {le : Nat → Nat → Bool} {c : Nat} {x : List Int} (h : x ∈ fsL n le c) : x.length ≤ n := by
  obtain ⟨b, _, rfl⟩ := List.mem_map.1 h
  have := bsel_len (irs n le) b (irs n le).length
  have : (irs n le).length ≤ n := fl_len _ _
  rw [cs_len]; omega

theorem sets_eq {n : Nat} {le : Nat → Nat → Bool} (h : LatP n le) (h8 : n ≤ 8) : zz35 big (pos n le) = some (sortBy cmpT (fsL n le (2 ^ (irs n le).length)), ()) := by
  have hk : (irs n le).length ≤ 8 := Nat.le_trans (fl_len _ _) h8
  have hp : 2 ^ (irs n le).length ≤ 256 := by
    have := Nat.pow_le_pow_right (n := 2) (by omega) hk
    omega
  have hirr : ∀ i (hi : i < (irs n le).length), (irs n le).getD i 0 < n ∧ irr n le ((irs n le).getD i 0) = true := fun i hi => fl_mem.1 (getD_mem hi)
  unfold zz35 zz35_s
  rw [specIrs_eq (by omega), Option.bind_some]
  refine zz35_h4 (irs n le).length (fun i l => l = mkR i fun j => cs (frc n le ((irs n le).getD j 0))) (by omega) ?_ ?_ 0 (by omega) _ rfl
  · rintro rc i l hi rfl ih
    have hm := hirr i hi
    unfold zz35_b4
    rw [cs_len, cdt (by omega), atI_csD hi, Option.bind_some, Int.toNat_natCast, get_csD hi, Option.bind_some, specForced_eq h hm.1 hm.2, Option.bind_some, app1 (by rw [mkR_len]; omega), Option.bind_some, wr1 (by omega)]
    exact ih _ (by rw [mkR_succ])
  · rintro rc l rfl
    unfold zz35_b4
    rw [cs_len, cdf (by omega), zz35_a4]
    refine zz35_h9 (2 ^ (irs n le).length) (fun c out => out = sortBy cmpT (fsL n le c)) (by omega) ?_ ?_ 0 (Nat.zero_le _) _ rfl
    · rintro rc2 c out hc rfl ih
      have hfl := fsL_len n le c
      unfold zz35_b9
      rw [cs_len, shl1 (by omega), Option.bind_some, cdt (by unfold pw; omega)]
      refine zz35_h13 (irs n le).length (fun i s => s = cs (bsel (irs n le) c i)) (by omega) ?_ ?_ 0 (by omega) _ rfl
      · rintro rc3 i s hi rfl ih2
        have hbl := bsel_len (irs n le) c i
        unfold zz35_b13
        rw [cs_len, cdt (by omega), shr_nat (by omega) (by omega), Option.bind_some, and1_nat (by have := Nat.div_le_self c (2 ^ i); omega), wr1 (by omega)]
        by_cases e : c / 2 ^ i % 2 = 1
        · rw [cdt (show ((c / 2 ^ i % 2 : Nat) : Int) = 1 by rw [e]; rfl), atI_csD hi, Option.bind_some, Int.toNat_natCast, get_csD hi, Option.bind_some, app1 (by rw [cs_len]; omega), Option.bind_some]
          exact ih2 _ (by rw [bsel, if_pos e, cs_append]; rfl)
        · rw [cdf (show ¬ ((c / 2 ^ i % 2 : Nat) : Int) = 1 from fun q => e (by generalize c / 2 ^ i % 2 = z at *; omega))]
          exact ih2 _ (by rw [bsel, if_neg e])
      · rintro rc3 s rfl
        unfold zz35_b13
        rw [cs_len, cdf (by omega), zz35_a13]
        refine zz35_h18 (irs n le).length (fun i g => g = tv (goodS n le c i)) (by omega) ?_ ?_ 0 (by omega) _ (tv_t fun i hi => by omega).symm
        · rintro rc4 i g hi rfl ih3
          have hbl := bsel_len (irs n le) c (irs n le).length
          have hfl := frc_len n le ((irs n le).getD i 0)
          unfold zz35_b18
          rw [cs_len, cdt (by omega), wr1 (by omega)]
          by_cases hg : goodS n le c i
          · rw [tv_t hg, cond_true, shr_nat (by omega) (by omega), Option.bind_some, and1_nat (by have := Nat.div_le_self c (2 ^ i); omega)]
            by_cases e : c / 2 ^ i % 2 = 1
            · rw [cdf (show ¬ ((c / 2 ^ i % 2 : Nat) : Int) = 0 by rw [e]; decide), atI_mkR hi, Option.bind_some, Int.toNat_natCast, get_mkR hi, Option.bind_some, Option.bind_some, l5Within_eq _ _ (by rw [cs_len]; omega) (by rw [cs_len]; omega), Option.bind_some]
              exact ih3 _ (tv_congr ⟨fun q => all_lt_succ.2 ⟨hg, fun _ => q⟩, fun q => q i (by omega) e⟩)
            · rw [cdt (show ((c / 2 ^ i % 2 : Nat) : Int) = 0 by generalize c / 2 ^ i = z at *; omega)]
              exact ih3 _ (tv_t (all_lt_succ.2 ⟨hg, fun q => absurd q e⟩)).symm
          · rw [tv_f hg, cond_false]
            exact ih3 _ (tv_f fun q => hg fun j hj => q j (by omega)).symm
        · rintro rc4 g rfl
          have hlt : c + 1 ≤ 256 := by omega
          unfold zz35_b18
          rw [cs_len, cdf (by omega), zz35_a18]
          by_cases hg : goodS n le c (irs n le).length
          · rw [tv_t hg, cond_true, sort5_eq _ _ (by rw [cs_len]; have := bsel_len (irs n le) c (irs n le).length; omega) (by rw [sortBy_len cmpT_ok]; omega) (sortBy_sorted cmpT_ok _), Option.bind_some, wr1 (by omega)]
            exact ih _ (by rw [fsL_succ, if_pos (tv_t hg), sortBy_snoc])
          · rw [tv_f hg, cond_false, wr1 (by omega)]
            exact ih _ (by rw [fsL_succ, if_neg (by rw [tv_f hg]; simp)])
    · rintro rc2 out rfl
      unfold zz35_b9
      rw [cs_len, shl1 (by omega), Option.bind_some, cdf (by unfold pw; omega), zz35_a9]

theorem forcedSets_eq (p : PT) (hx : ∀ r ∈ p.1, r.length ≤ 4294967296) : ∃ v : List (List Int) × Bool × Unit, zz36 p = some (v, ()) ∧ zz74 big p = some (v, ()) ∧ v.1.length ≤ 256 ∧ ∀ x ∈ v.1, x.length ≤ 10 := by
  unfold zz36 zz36_s zz74 zz74_s
  rcases takes_cases hx with ⟨n, le, e, h, h8, h1, h2⟩ | ⟨h1, l, h2⟩
  · subst e
    have h10 := h.le10
    have hk : (irs n le).length ≤ 8 := Nat.le_trans (fl_len _ _) h8
    have hp : 2 ^ (irs n le).length ≤ 256 := by
      have := Nat.pow_le_pow_right (n := 2) (by omega) hk
      omega
    rw [h1, h2]
    simp only [Option.bind_some, Bool.not_true, cond_false, sets_eq h h8, irreducibles_eq (show n ≤ 1048576 by omega)]
    refine ⟨(sortBy cmpT (fsL n le (2 ^ (irs n le).length)), true, ()), rfl, ?_, ?_, ?_⟩
    · show zz74_F7 big (some (lat n le)) (cs (irs n le)) [] (0 : Int) = _
      refine zz74_h7 (2 ^ (irs n le).length) (fun c out => out = fsL n le c) (by omega) ?_ ?_ 0 (Nat.zero_le _) _ rfl
      · rintro rc c out hc rfl ih
        have hfl := fsL_len n le c
        have hbl := bsel_len (irs n le) c (irs n le).length
        unfold zz74_b7
        rw [cs_len, shl1 (by omega), Option.bind_some, cdt (by unfold pw; omega), bitsOf_eq (by omega) hc, Option.bind_some,
          compose_eq (fun s hs => (fl_mem.1 hs).1) (by have := fl_len (irs n le).length (bitp c); omega), Option.bind_some, ← bsel_fl, isForcedSet_eq h _ (by rw [cs_len]; omega), Option.bind_some, wr1 (by omega)]
        by_cases hg : goodS n le c (irs n le).length
        · rw [tv_t ((goodS_FS c).1 hg), cond_true, app1 (by omega), Option.bind_some]
          exact ih _ (by rw [fsL_succ, if_pos (tv_t hg)])
        · rw [tv_f (fun q => hg ((goodS_FS c).2 q)), cond_false]
          exact ih _ (by rw [fsL_succ, if_neg (by rw [tv_f hg]; simp)])
      · rintro rc out rfl
        have hfl := fsL_len n le (2 ^ (irs n le).length)
        unfold zz74_b7
        rw [cs_len, shl1 (by omega), Option.bind_some, cdf (by unfold pw; omega), zz74_a7]
        unfold impl_sortRows_k_compareTerms
        rw [sortRows_eq _ _ (by omega)]; rfl
    · show (sortBy cmpT _).length ≤ 256
      rw [sortBy_len cmpT_ok]
      have := fsL_len n le (2 ^ (irs n le).length)
      omega
    · intro x hx
      have := fsL_row ((sortBy_mem cmpT_ok).1 hx)
      omega
  · rw [h1, h2]
    exact ⟨_, rfl, rfl, by simp, by simp⟩

theorem true_ForcedSets (p : PT) (hw : Wf (.pair (.pair (.sl (.sl I)) .unit) .unit) (p, ())) : laws_FnExactForcedSets p = some (true, ()) := by
  obtain ⟨v, hv, hv1, hv2⟩ := szPoset_eq p 1048576 hw.1 (by omega) (by omega)
  unfold laws_FnExactForcedSets laws_FnExactForcedSets_s
  rw [hv, Option.bind_some]
  by_cases h : v < 0
  · rw [cdt h]
  · have hs := hv2 (by omega)
    obtain ⟨r, h1, h2, h3, h4⟩ := forcedSets_eq p hs.rows
    obtain ⟨m, j, hm, hj, hj2⟩ := markPoset_ok hs 1 (by omega) (by omega)
    have hsum : (r.1.map List.length).sum ≤ 10000000000 := Nat.le_trans (sum_le h4) (by omega)
    have e1 : r.1.length ≤ 1099511627775 := by omega
    have e2 : ∀ x ∈ r.1, x.length ≤ 4294967296 := fun x hx => by have := h4 x hx; omega
    have e3 : (1 : Int) + ((r.1.map List.length).sum : Nat) ≤ 1099511627775 := by omega
    simp only [cdf h, toPoset_eq hs, Option.bind_some, h1, h2, eqPoset_eq hs, eqIntSS_eq r.1 r.1 e1 e2,
        hm, markIntSS_eq r.1 1 e1 (show (0 : Int) ≤ 1 by omega) e3, heldIntSS_eq 1 (r.1.map List.length) (show (r.1.map List.length).length ≤ 1099511627775 by rw [List.length_map]; omega) (show (0 : Int) ≤ 1 by omega) e3]
    simp
    repeat rw [cdf (by omega)]

noncomputable def hv (n : Nat) (H : Nat → Bool) (E : Nat → Prop) : List Bool := mkR n fun z => H z || tv (E z)


end Go.Proofs.YtlndlclemhfekaaGreat
