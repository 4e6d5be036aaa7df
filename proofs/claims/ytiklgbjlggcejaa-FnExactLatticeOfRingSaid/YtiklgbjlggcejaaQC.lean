import Derived.Test.YtiklgbjlggcejaaPTab
import Derived.Test.YtiklgbjlggcejaaHC
import Derived.KernelRfl
set_option linter.unusedVariables false
set_option linter.unusedSimpArgs false
namespace Go.Proofs.Ytiklgbjlggcejaa
open Go Go.Gx Go.Proofs

theorem toIntS_l (N : Nat) (k : List Int → Option (List Int × Unit)) : ∀ (n : Nat) (a out : List Int) (i : Nat), a.length - i < n → i ≤ a.length → out.length = a.length → a.length ≤ 1099511627776 →
    zz4_l3 N k n a out i = k (out.take i ++ a.drop i)
  | 0, _, _, _, h, _, _, _ => by omega
  | n + 1, a, out, i, h, hi, ho, hb => by
    simp only [zz4_l3, zz4_b3]
    by_cases hlt : i < a.length
    · rw [cdt (by omega), atI_lt a i hlt, Option.bind_some, atI_lt out i (by omega), Option.bind_some, Int.toNat_natCast, List.getElem?_eq_getElem (by omega), Option.bind_some, wr (by omega) (by omega)]
      have := toIntS_l N k n a (out.set i a[i]) (i + 1) (by omega) (by omega) (by simpa using ho) hb
      rw [show ((i : Int) + 1) = ((i + 1 : Nat) : Int) by omega, this]
      congr 1
      rw [List.take_succ_eq_append_getElem (by simp; omega), List.take_set, List.set_eq_of_length_le (by simp [Nat.min_le_left]), List.append_assoc]
      congr 1
      rw [List.getElem_set_self, List.singleton_append, ← List.drop_eq_getElem_cons hlt]
    · rw [cdf (by omega)]
      have : i = a.length := by omega
      subst this
      rw [List.drop_length, List.append_nil, List.take_of_length_le (by omega)]

theorem toIntS_eq (a : List Int) (h : a.length ≤ 4294967296) : zz4 big a = some (a, ()) := by
  have hb := big_ge
  unfold zz4 zz4_s
  rw [mkI_nat _ _ h, Option.bind_some, Option.bind_some, cdt (by omega)]
  unfold zz4_F3
  have := toIntS_l big zz4_a3 big a (List.replicate a.length 0) 0 (by omega) (by omega) (by simp) (by omega)
  refine Eq.trans this ?_
  simp [zz4_a3]

theorem eqIntS_l (N : Nat) (k : Option (Bool × Unit)) : ∀ (n : Nat) (a b : List Int) (i : Nat), a.length - i < n → i ≤ a.length → b.length = a.length → a.length ≤ 1099511627776 →
    zz73_l4 N k n a b i = if a.drop i = b.drop i then k else some (false, ())
  | 0, _, _, _, h, _, _, _ => by omega
  | n + 1, a, b, i, h, hi, hl, hb => by
    simp only [zz73_l4, zz73_b4]
    by_cases hlt : i < a.length
    · rw [cdt (by omega), atI_lt a i hlt, Option.bind_some, atI_lt b i (by omega), Option.bind_some, wr (by omega) (by omega)]
      have := eqIntS_l N k n a b (i + 1) (by omega) (by omega) hl hb
      rw [show ((i : Int) + 1) = ((i + 1 : Nat) : Int) by omega, this]
      rw [List.drop_eq_getElem_cons hlt, List.drop_eq_getElem_cons (show i < b.length by omega)]
      by_cases hx : a[i] = b[i]
      · rw [cdf (by simpa using hx), hx]; simp only [List.cons.injEq, true_and]
      · rw [cdt hx, if_neg (fun e => hx (by simp only [List.cons.injEq] at e; exact e.1))]
    · rw [cdf (by omega), List.drop_eq_nil_of_le (by omega), List.drop_eq_nil_of_le (by omega)]
      simp

theorem eqIntS_eq (a b : List Int) (h : a.length ≤ 1099511627775) : zz73 big a b = some (decide (a = b), ()) := by
  have hb := big_ge
  unfold zz73 zz73_s
  by_cases hl : a.length = b.length
  · rw [cdf (by simp [hl])]
    unfold zz73_F4
    have := eqIntS_l big zz73_a4 big a b 0 (by omega) (by omega) (by omega) (by omega)
    rw [show (0 : Int) = ((0 : Nat) : Int) from rfl, this]
    simp only [List.drop_zero, zz73_a4]
    by_cases he : a = b <;> simp [he]
  · rw [cdt (by omega)]
    have : a ≠ b := by rintro rfl; exact hl rfl
    simp [this]

theorem l1In_eq (x a b : Int) : zz8 x a b = some (decide (a ≤ x ∧ x ≤ b), ()) := by
  unfold zz8 zz8_s
  by_cases h : a ≤ x <;> simp [h]

def marks : Int → Nat → List Int
  | _, 0 => []
  | k, n + 1 => k :: marks (k + 1) n

theorem marks_len : ∀ (k : Int) (n : Nat), (marks k n).length = n
  | _, 0 => rfl
  | k, n + 1 => by simp [marks, marks_len (k + 1) n]

theorem markIntS_l (N : Nat) (kk : List Int → Int → Option (Int × (List Int × Unit))) : ∀ (n : Nat) (a : List Int) (k : Int) (i : Nat), a.length - i < n → i ≤ a.length → a.length ≤ 1099511627776 → 0 ≤ k → k ≤ 1125899906842624 →
    k + (a.length - i : Nat) ≤ 1125899906842624 → zz79_l2 N kk n a k i = kk (a.take i ++ marks k (a.length - i)) (k + (a.length - i : Nat))
  | 0, _, _, _, h, _, _, _, _, _ => by omega
  | n + 1, a, k, i, h, hi, hb, hk0, hk, hk2 => by
    simp only [zz79_l2, zz79_b2]
    by_cases hlt : i < a.length
    · rw [cdt (by omega), atI_lt a i hlt, Option.bind_some, Int.toNat_natCast, List.getElem?_eq_getElem hlt, Option.bind_some, wr (by omega) (by omega), wr (by omega) (by omega)]
      have := markIntS_l N kk n (a.set i k) (k + 1) (i + 1) (by simp; omega) (by simp; omega) (by simpa using hb) (by omega) (by omega) (by simp; omega)
      rw [show ((i : Int) + 1) = ((i + 1 : Nat) : Int) by omega, this]
      rw [List.length_set, List.take_succ_eq_append_getElem (by simp; omega), List.take_set, List.set_eq_of_length_le (by simp [Nat.min_le_left]), List.append_assoc, List.getElem_set_self]
      have e : a.length - i = (a.length - (i + 1)) + 1 := by omega
      rw [e, marks]
      congr 1
      omega
    · rw [cdf (by omega)]
      have : i = a.length := by omega
      subst this
      simp [marks]

theorem markIntS_eq (a : List Int) (k : Int) (h : a.length ≤ 1099511627775) (hk : 0 ≤ k) (hk2 : k ≤ 1099511627776) : zz79 big a k = some (k + a.length, (marks k a.length, ())) := by
  have hb := big_ge
  unfold zz79 zz79_s zz79_F2
  have := markIntS_l big zz79_a2 big a k 0 (by omega) (by omega) (by omega) hk (by omega) (by omega)
  refine Eq.trans this ?_
  simp [zz79_a2]

theorem heldIntS_l (N : Nat) (kk : Int → Option (Int × Unit)) : ∀ (n : Nat) (a b : List Int) (k : Int) (d : Nat), d < n → a = b ++ marks k d → a.length ≤ 1099511627776 → 0 ≤ k → k + d ≤ 1125899906842624 →
    zz84_l2 N kk n a k b.length = kk (k + d)
  | 0, _, _, _, _, h, _, _, _, _ => by omega
  | n + 1, a, b, k, d, h, ha, hb, hk0, hk => by
    simp only [zz84_l2, zz84_b2]
    have hlen : a.length = b.length + d := by rw [ha]; simp [marks_len]
    cases d with
    | zero => rw [cdf (by omega)]; simp
    | succ d =>
      have hlt : b.length < a.length := by omega
      have hx : a[b.length] = k := by
        have : a[b.length]? = some k := by rw [ha]; simp [marks]
        rw [List.getElem?_eq_getElem hlt] at this
        simpa using this
      rw [cdt (by omega), atI_lt a b.length hlt, Option.bind_some, hx, cdf (by simp), wr (by omega) (by omega), wr (by omega) (by omega)]
      have := heldIntS_l N kk n a (b ++ [k]) (k + 1) d (by omega) (by rw [ha, marks, List.append_assoc]; rfl) hb (by omega) (by omega)
      rw [List.length_append, List.length_singleton] at this
      rw [show ((b.length : Int) + 1) = ((b.length + 1 : Nat) : Int) by omega, this]
      congr 1
      omega

theorem heldIntS_eq (k : Int) (d : Nat) (h : d ≤ 1099511627775) (hk : 0 ≤ k) (hk2 : k ≤ 1099511627776) : zz84 big (marks k d) k = some (k + d, ()) := by
  have hb := big_ge
  unfold zz84 zz84_s zz84_F2
  exact heldIntS_l big zz84_a2 big (marks k d) [] k d (by omega) rfl (by rw [marks_len]; omega) hk (by omega)

def subst (l : Int) (s : List Int) : List Int → List Int
  | [] => []
  | x :: xs => if x = l then s ++ subst l s xs else x :: subst l s xs

theorem eqIntSS_l (N : Nat) (k : Option (Bool × Unit)) : ∀ (n : Nat) (a b : List (List Int)) (i : Nat), a.length - i < n → i ≤ a.length → b.length = a.length → a.length ≤ 1099511627776 → (∀ x ∈ a, x.length ≤ 4294967296) →
    zz74_l4 N k n a b i = if a.drop i = b.drop i then k else some (false, ())
  | 0, _, _, _, h, _, _, _, _ => by omega
  | n + 1, a, b, i, h, hi, hl, hb, hx => by
    simp only [zz74_l4, zz74_b4]
    by_cases hlt : i < a.length
    · have hxx := hx _ (List.getElem_mem hlt)
      rw [cdt (by omega), atI_lt a i hlt, Option.bind_some, atI_lt b i (by omega), Option.bind_some, eqIntS_eq _ _ (by omega), Option.bind_some, wr (by omega) (by omega)]
      have := eqIntSS_l N k n a b (i + 1) (by omega) (by omega) hl hb hx
      rw [show ((i : Int) + 1) = ((i + 1 : Nat) : Int) by omega, this]
      rw [List.drop_eq_getElem_cons hlt, List.drop_eq_getElem_cons (show i < b.length by omega)]
      by_cases hx : a[i] = b[i]
      · rw [hx]; simp only [decide_true, Bool.not_true, cond_false, List.cons.injEq, true_and]
      · rw [decide_eq_false hx]; exact (if_neg (fun e => hx (List.cons.inj e).1)).symm
    · rw [cdf (by omega), List.drop_eq_nil_of_le (by omega), List.drop_eq_nil_of_le (by omega)]
      simp

theorem eqIntSS_eq (a b : List (List Int)) (h : a.length ≤ 1099511627775) (hx : ∀ x ∈ a, x.length ≤ 4294967296) : zz74 big a b = some (decide (a = b), ()) := by
  have hb := big_ge
  unfold zz74 zz74_s
  by_cases hl : a.length = b.length
  · rw [cdf (by simp [hl])]
    unfold zz74_F4
    have := eqIntSS_l big zz74_a4 big a b 0 (by omega) (by omega) (by omega) (by omega) hx
    refine Eq.trans this ?_
    simp only [List.drop_zero, zz74_a4]
    by_cases he : a = b <;> simp [he]
  · rw [cdt (by omega)]
    have : a ≠ b := by rintro rfl; exact hl rfl
    simp [this]

def marksS : Int → List Nat → List (List Int)
  | _, [] => []
  | k, n :: ns => marks k n :: marksS (k + n) ns

theorem marksS_len : ∀ (k : Int) (ns : List Nat), (marksS k ns).length = ns.length
  | _, [] => rfl
  | k, n :: ns => by simp [marksS, marksS_len _ ns]

theorem markIntSS_l (N : Nat) (kk : List (List Int) → Int → Option (Int × (List (List Int) × Unit))) : ∀ (n : Nat) (a : List (List Int)) (k : Int) (i : Nat), a.length - i < n → i ≤ a.length → a.length ≤ 1099511627776 → 0 ≤ k → k + ((a.drop i).map List.length).sum ≤ 1099511627775 →
    zz82_l2 N kk n a k i = kk (a.take i ++ marksS k ((a.drop i).map List.length)) (k + ((a.drop i).map List.length).sum)
  | 0, _, _, _, h, _, _, _, _ => by omega
  | n + 1, a, k, i, h, hi, hb, hk0, hk => by
    simp only [zz82_l2, zz82_b2]
    by_cases hlt : i < a.length
    · rw [List.drop_eq_getElem_cons hlt, List.map_cons, List.sum_cons] at hk
      rw [cdt (by omega), atI_lt a i hlt, Option.bind_some, Int.toNat_natCast, List.getElem?_eq_getElem hlt, Option.bind_some, Option.bind_some, markIntS_eq _ k (by omega) (by omega) (by omega), Option.bind_some, Option.bind_some, Option.bind_some, wr (n := (i : Int) + 1) (by omega) (by omega)]
      have e1 : (a.set i (marks k a[i].length)).drop (i + 1) = a.drop (i + 1) := by rw [List.drop_set, if_pos (by omega)]
      have := markIntSS_l N kk n (a.set i (marks k a[i].length)) (k + a[i].length) (i + 1) (by simp; omega) (by simp; omega) (by simpa using hb) (by omega) (by rw [e1]; omega)
      rw [show ((i : Int) + 1) = ((i + 1 : Nat) : Int) by omega, this, e1]
      rw [List.take_succ_eq_append_getElem (by simp; omega), List.take_set, List.set_eq_of_length_le (by simp [Nat.min_le_left]), List.append_assoc, List.getElem_set_self]
      rw [List.drop_eq_getElem_cons hlt, List.map_cons, List.sum_cons, marksS]
      congr 1
      omega
    · rw [cdf (by omega)]
      have : i = a.length := by omega
      subst this
      simp [marksS]

theorem markIntSS_eq (a : List (List Int)) (k : Int) (h : a.length ≤ 1099511627775) (hk : 0 ≤ k) (hk2 : k + (a.map List.length).sum ≤ 1099511627775) : zz82 big a k = some (k + (a.map List.length).sum, (marksS k (a.map List.length), ())) := by
  have hb := big_ge
  unfold zz82 zz82_s zz82_F2
  have := markIntSS_l big zz82_a2 big a k 0 (by omega) (by omega) (by omega) hk (by simpa using hk2)
  refine Eq.trans this ?_
  simp [zz82_a2]

theorem heldIntSS_l (N : Nat) (kk : Int → Option (Int × Unit)) : ∀ (n : Nat) (a b : List (List Int)) (k : Int) (ns : List Nat), ns.length < n → a = b ++ marksS k ns → a.length ≤ 1099511627776 → 0 ≤ k → k + ns.sum ≤ 1099511627775 →
    zz85_l2 N kk n a k b.length = kk (k + ns.sum)
  | 0, _, _, _, _, h, _, _, _, _ => by omega
  | n + 1, a, b, k, ns, h, ha, hb, hk0, hk => by
    simp only [zz85_l2, zz85_b2]
    have hlen : a.length = b.length + ns.length := by rw [ha]; simp [marksS_len]
    cases ns with
    | nil => rw [cdf (by simp at hlen; omega)]; simp
    | cons m ns =>
      simp only [List.length_cons] at hlen h
      simp only [List.sum_cons] at hk
      have hlt : b.length < a.length := by omega
      have hx : a[b.length] = marks k m := by
        have : a[b.length]? = some (marks k m) := by rw [ha]; simp [marksS]
        rw [List.getElem?_eq_getElem hlt] at this
        simpa using this
      rw [cdt (by omega), atI_lt a b.length hlt, Option.bind_some, hx, heldIntS_eq k m (by omega) hk0 (by omega), Option.bind_some, cdf (by omega), wr (by omega) (by omega)]
      have := heldIntSS_l N kk n a (b ++ [marks k m]) (k + m) ns (by omega) (by rw [ha, marksS, List.append_assoc]; rfl) hb (by omega) (by omega)
      rw [List.length_append, List.length_singleton] at this
      rw [show ((b.length : Int) + 1) = ((b.length + 1 : Nat) : Int) by omega, this, List.sum_cons]
      congr 1
      omega

theorem heldIntSS_eq (k : Int) (ns : List Nat) (h : ns.length ≤ 1099511627775) (hk : 0 ≤ k) (hk2 : k + ns.sum ≤ 1099511627775) : zz85 big (marksS k ns) k = some (k + ns.sum, ()) := by
  have hb := big_ge
  unfold zz85 zz85_s zz85_F2
  exact heldIntSS_l big zz85_a2 big (marksS k ns) [] k ns (by omega) rfl (by rw [marksS_len]; omega) hk hk2

theorem markIntS_eq2 (a : List Int) (k : Int) (h : a.length ≤ 1099511627775) (hk : 0 ≤ k) (hk2 : k ≤ 10995116277760) : zz79 big a k = some (k + a.length, (marks k a.length, ())) := by
  have hb := big_ge
  unfold zz79 zz79_s zz79_F2
  have := markIntS_l big zz79_a2 big a k 0 (by omega) (by omega) (by omega) hk (by omega) (by omega)
  refine Eq.trans this ?_
  simp [zz79_a2]

def risingB : List Int → Bool
  | x :: y :: r => decide (x < y) && risingB (y :: r)
  | _ => true

def inB (n : Nat) (x : Int) : Bool := decide (0 ≤ x ∧ x < n)

def isSetB (n : Nat) (s : List Int) : Bool := s.all (inB n) && risingB s

theorem rising_step (l : List Int) (i : Nat) (h : i < l.length) (h1 : 1 ≤ i) : risingB (l.drop (i - 1)) = (decide (l[i - 1] < l[i]) && risingB (l.drop i)) := by
  rw [List.drop_eq_getElem_cons (show i - 1 < l.length by omega), show i - 1 + 1 = i by omega, List.drop_eq_getElem_cons h]
  rfl

theorem rising_end (l : List Int) (i : Nat) (h : l.length ≤ i) (h1 : 1 ≤ i) : risingB (l.drop (i - 1)) = true := by
  by_cases h2 : l.length = i
  · rw [List.drop_eq_getElem_cons (show i - 1 < l.length by omega), List.drop_eq_nil_of_le (by omega)]
    rfl
  · rw [List.drop_eq_nil_of_le (by omega)]
    rfl

theorem specRising_l (N : Nat) {m : Nat} : ∀ (n : Nat) (l : List Int) (i : Nat), l.length - i < n → i ≤ l.length → l.length ≤ 1099511627776 →
    zz15_l2 N zz15_a2 n l 0 ((m : Int) - 1) i = some ((l.drop i).all (inB m) && risingB (l.drop (i - 1)), ())
  | 0, _, _, h, _, _ => by omega
  | n + 1, l, i, h, hi, hb => by
    simp only [zz15_l2, zz15_b2]
    by_cases hlt : i < l.length
    · have e : decide (0 ≤ l[i] ∧ l[i] ≤ (m : Int) - 1) = inB m l[i] := by
        unfold inB; congr 1; exact propext ⟨fun h => ⟨h.1, by omega⟩, fun h => ⟨h.1, by omega⟩⟩
      rw [cdt (by omega), atI_lt l i hlt, Option.bind_some, l1In_eq, Option.bind_some, e, wr (n := (i : Int) + 1) (by omega) (by omega), wr (n := (i : Int) - 1) (by omega) (by omega)]
      rw [show ((i : Int) + 1) = ((i + 1 : Nat) : Int) by omega, specRising_l N n l (i + 1) (by omega) (by omega) hb]
      rw [show i + 1 - 1 = i by omega]
      cases hin : inB m l[i] with
      | false =>
        rw [List.drop_eq_getElem_cons hlt, List.all_cons, hin]
        rfl
      | true =>
        simp only [Bool.not_true, cond_false]
        by_cases h0 : 0 < i
        · rw [cdt (by omega), show ((i : Int) - 1) = ((i - 1 : Nat) : Int) by omega, atI_lt l (i - 1) (by omega), Option.bind_some, Option.bind_some, rising_step l i hlt h0]
          by_cases hle : l[i] ≤ l[i - 1]
          · rw [cdt hle, decide_eq_false (by omega)]
            simp
          · rw [cdf hle, decide_eq_true (show l[i - 1] < l[i] by omega), List.drop_eq_getElem_cons hlt, List.all_cons, hin]
            simp
        · rw [cdf (by omega)]
          have : i = 0 := by omega
          subst this
          rw [show (0 : Nat) - 1 = 0 from rfl, List.drop_eq_getElem_cons hlt, List.all_cons, hin]
          simp
    · rw [cdf (by omega), List.drop_eq_nil_of_le (by omega)]
      by_cases h1 : 1 ≤ i
      · rw [rising_end l i (by omega) h1]; rfl
      · have : l = [] := List.eq_nil_of_length_eq_zero (by omega)
        subst this
        simp [risingB, zz15_a2]

theorem inSize_l (N : Nat) {m : Nat} : ∀ (n : Nat) (l : List Int) (i : Nat), l.length - i < n → i ≤ l.length → l.length ≤ 1099511627776 →
    zz37_l2 N zz37_a2 n (m : Int) l (l.length : Int) i = some ((l.drop i).all (inB m), ())
  | 0, _, _, h, _, _ => by omega
  | n + 1, l, i, h, hi, hb => by
    simp only [zz37_l2, zz37_b2]
    by_cases hlt : i < l.length
    · rw [cdt (by omega), atI_lt l i hlt, Option.bind_some, wr (n := (i : Int) + 1) (by omega) (by omega)]
      rw [show ((i : Int) + 1) = ((i + 1 : Nat) : Int) by omega, inSize_l N n l (i + 1) (by omega) (by omega) hb]
      rw [List.drop_eq_getElem_cons hlt, List.all_cons]
      unfold inB
      by_cases h0 : l[i] < 0
      · rw [cdt h0, decide_eq_false (by omega)]; rfl
      · rw [cdf h0]
        by_cases h1 : (m : Int) ≤ l[i]
        · rw [cdt h1, decide_eq_false (by omega)]; rfl
        · rw [cdf h1, decide_eq_true (by omega)]; rfl
    · rw [cdf (by omega), List.drop_eq_nil_of_le (by omega)]
      rfl

theorem rises_l (N : Nat) : ∀ (n : Nat) (l : List Int) (i : Nat), l.length - i < n → 1 ≤ i → l.length ≤ 1099511627776 → i ≤ 1099511627777 →
    zz45_l2 N zz45_a2 n l i = some (risingB (l.drop (i - 1)), ())
  | 0, _, _, h, _, _, _ => by omega
  | n + 1, l, i, h, hi, hb, hi2 => by
    simp only [zz45_l2, zz45_b2]
    by_cases hlt : i < l.length
    · rw [cdt (by omega), wr (n := (i : Int) - 1) (by omega) (by omega), show ((i : Int) - 1) = ((i - 1 : Nat) : Int) by omega, atI_lt l (i - 1) (by omega), Option.bind_some, atI_lt l i hlt, Option.bind_some, wr (n := (i : Int) + 1) (by omega) (by omega)]
      rw [show ((i : Int) + 1) = ((i + 1 : Nat) : Int) by omega, rises_l N n l (i + 1) (by omega) (by omega) hb (by omega), rising_step l i hlt hi, show i + 1 - 1 = i by omega]
      by_cases hle : l[i] ≤ l[i - 1]
      · rw [cdt hle, decide_eq_false (by omega)]; rfl
      · rw [cdf hle, decide_eq_true (by omega)]; rfl
    · rw [cdf (by omega), rising_end l i (by omega) hi]
      rfl

theorem wr1 {i : Nat} (h : i ≤ 4611686018427387904) : IntKind.i64.wrap ((i : Int) + 1) = ((i + 1 : Nat) : Int) := by rw [wr (by omega) (by omega)]; omega

abbrev PT := List (List Int) × Unit

def pos (n : Nat) (le : Nat → Nat → Bool) : PT := (mkR n fun y => cs (fl n fun x => le x y), ())

def leP (p : PT) (x y : Nat) : Bool := decide ((x : Int) ∈ p.1.getD y [])

structure Ord (n : Nat) (le : Nat → Nat → Bool) : Prop where
  refl : ∀ x, x < n → le x x = true
  anti : ∀ x y, x < n → y < n → x ≠ y → le x y = true → le y x = false
  trans : ∀ x y z, x < n → y < n → z < n → le x y = true → le y z = true → le x z = true

structure Good (p : PT) : Prop where
  len : p.1.length ≤ 10
  rows : ∀ r ∈ p.1, isSetB p.1.length r = true
  ord : Ord p.1.length (leP p)

theorem l1Has_eq (l : List Int) (x : Int) (h : l.length ≤ 4294967296) : zz16 big l x = some (decide (x ∈ l), ()) := by
  unfold zz16 zz16_s
  refine zz16_h2 l.length (fun i => x ∉ l.take i) (by omega) ?_ ?_ 0 (by omega) (by simp)
  · intro rc i hi hv ih
    unfold zz16_b2
    rw [cdt (by omega), atI_lt l i hi, Option.bind_some]
    by_cases hx : l[i] = x
    · rw [cdt hx, decide_eq_true (hx ▸ List.getElem_mem hi)]
    · rw [cdf hx, wr1 (by omega)]
      refine ih fun h => ?_
      rw [List.take_succ_eq_append_getElem hi, List.mem_append, List.mem_singleton] at h
      exact h.elim hv fun e => hx e.symm
  · intro rc hv
    unfold zz16_b2
    rw [cdf (by omega), zz16_a2, decide_eq_false (by simpa using hv)]

theorem l1Has_cs (S : List Nat) (x : Nat) (h : S.length ≤ 4294967296) : zz16 big (cs S) (x : Int) = some (decide (x ∈ S), ()) := by
  rw [l1Has_eq _ _ (by simpa using h)]
  simp only [cs_mem]

theorem l5Within_eq (a b : List Int) (ha : a.length ≤ 4294967296) (hb : b.length ≤ 4294967296) : zz17 big a b = some (tv (∀ x ∈ a, x ∈ b), ()) := by
  unfold zz17 zz17_s
  refine zz17_h2 a.length (fun i => ∀ x ∈ a.take i, x ∈ b) (by omega) ?_ ?_ 0 (by omega) (by simp)
  · intro rc i hi hv ih
    unfold zz17_b2
    rw [cdt (by omega), atI_lt a i hi, Option.bind_some, l1Has_eq _ _ hb, Option.bind_some]
    by_cases hx : a[i] ∈ b
    · rw [decide_eq_true hx, wr1 (by omega)]
      exact ih ((all_take_succ hi).2 ⟨hv, hx⟩)
    · rw [decide_eq_false hx, tv_f fun h => hx (h _ (List.getElem_mem hi))]
      rfl
  · intro rc hv
    unfold zz17_b2
    rw [cdf (by omega), zz17_a2, tv_t (by simpa using hv)]

theorem specRising_eq (n : Nat) (s : List Int) (hn : n ≤ 1099511627776) (hs : s.length ≤ 1099511627775) : zz15 big s 0 ((n : Int) - 1) = some (isSetB n s, ()) := by
  have hb := big_ge
  unfold zz15 zz15_s zz15_F2
  have := specRising_l big (m := n) big s 0 (by omega) (by omega) (by omega)
  rw [show zz15_l2 big zz15_a2 big s 0 ((n : Int) - 1) 0 = _ from this]
  rfl

theorem inSize_eq (n : Nat) (s : List Int) (hs : s.length ≤ 1099511627775) : zz37 big s (n : Int) = some (s.all (inB n), ()) := by
  have hb := big_ge
  unfold zz37 zz37_s zz37_F2
  have h1 := inSize_l big (m := n) big s 0 (by omega) (by omega) (by omega)
  rw [show (0 : Int) = ((0 : Nat) : Int) from rfl, h1]
  rfl

theorem rises_eq (s : List Int) (hs : s.length ≤ 1099511627775) : zz45 big s = some (risingB s, ()) := by
  have hb := big_ge
  unfold zz45 zz45_s zz45_F2
  have h2 := rises_l big big s 1 (by omega) (by omega) (by omega) (by omega)
  rw [show (1 : Int) = ((1 : Nat) : Int) from rfl, h2]
  rfl

theorem rising_pair : ∀ {l : List Int}, risingB l = true → l.Pairwise (· < ·)
  | [], _ => List.Pairwise.nil
  | [x], _ => by simp
  | x :: y :: r, h => by
    simp only [risingB, Bool.and_eq_true, decide_eq_true_eq] at h
    have h2 := rising_pair h.2
    refine List.pairwise_cons.2 ⟨fun z hz => ?_, h2⟩
    rcases List.mem_cons.1 hz with rfl | hz
    · exact h.1
    · have := (List.pairwise_cons.1 h2).1 z hz
      omega

theorem pair_rising : ∀ {l : List Int}, l.Pairwise (· < ·) → risingB l = true
  | [], _ => rfl
  | [x], _ => rfl
  | x :: y :: r, h => by
    have h1 := List.pairwise_cons.1 h
    simp only [risingB, Bool.and_eq_true, decide_eq_true_eq]
    exact ⟨h1.1 y (by simp), pair_rising h1.2⟩

theorem pair_ext : ∀ {l m : List Int}, l.Pairwise (· < ·) → m.Pairwise (· < ·) → (∀ x, x ∈ l ↔ x ∈ m) → l = m
  | [], [], _, _, _ => rfl
  | [], y :: m, _, _, h => by have := (h y).2 (by simp); simp at this
  | x :: l, [], _, _, h => by have := (h x).1 (by simp); simp at this
  | x :: l, y :: m, h1, h2, h => by
    have p1 := List.pairwise_cons.1 h1
    have p2 := List.pairwise_cons.1 h2
    have e : x = y := by
      rcases List.mem_cons.1 ((h x).1 (by simp)) with e | hx
      · exact e
      · rcases List.mem_cons.1 ((h y).2 (by simp)) with e | hy
        · exact e.symm
        · have := p1.1 y hy
          have := p2.1 x hx
          omega
    subst e
    congr 1
    refine pair_ext p1.2 p2.2 fun z => ?_
    constructor
    · intro hz
      rcases List.mem_cons.1 ((h z).1 (List.mem_cons_of_mem _ hz)) with e | hz2
      · have := p1.1 z hz; omega
      · exact hz2
    · intro hz
      rcases List.mem_cons.1 ((h z).2 (List.mem_cons_of_mem _ hz)) with e | hz2
      · have := p2.1 z hz; omega
      · exact hz2

theorem fl_pair (n : Nat) (P : Nat → Bool) : (cs (fl n P)).Pairwise (· < ·) := by
  unfold cs fl
  rw [List.pairwise_map]
  refine List.Pairwise.filter _ ?_
  have := List.pairwise_lt_range (n := n)
  exact this.imp fun h => by omega

theorem setB_form {n : Nat} {l : List Int} (h : isSetB n l = true) : l = cs (fl n fun x => decide ((x : Int) ∈ l)) := by
  unfold isSetB at h
  rw [Bool.and_eq_true] at h
  refine pair_ext (rising_pair h.2) (fl_pair _ _) fun x => ?_
  constructor
  · intro hx
    have h1 := List.all_eq_true.1 h.1 x hx
    unfold inB at h1
    rw [decide_eq_true_eq] at h1
    have e : x = ((x.toNat : Nat) : Int) := by omega
    rw [e, cs_mem, fl_mem]
    refine ⟨by omega, decide_eq_true ?_⟩
    rw [← e]; exact hx
  · intro hx
    unfold cs at hx
    obtain ⟨y, hy, e⟩ := List.mem_map.1 hx
    have := (fl_mem.1 hy).2
    rw [decide_eq_true_eq] at this
    exact e ▸ this

theorem fl_setB (n : Nat) (P : Nat → Bool) : isSetB n (cs (fl n P)) = true := by
  unfold isSetB
  rw [Bool.and_eq_true]
  refine ⟨List.all_eq_true.2 fun x hx => ?_, pair_rising (fl_pair n P)⟩
  unfold cs at hx
  obtain ⟨y, hy, e⟩ := List.mem_map.1 hx
  have := (fl_mem.1 hy).1
  unfold inB
  exact decide_eq_true (by omega)

theorem pos_form {p : PT} (h : ∀ r ∈ p.1, isSetB p.1.length r = true) : p = pos p.1.length (leP p) := by
  unfold pos
  refine Prod.ext ?_ rfl
  refine eq_mkR rfl fun i hi => ?_
  refine (setB_form (h _ (List.getElem_mem hi))).trans ?_
  refine congrArg cs (fl_congr fun x hx => ?_)
  unfold leP
  simp [hi]

theorem pos_len (n : Nat) (le : Nat → Nat → Bool) : (pos n le).1.length = n := mkR_len n _

theorem pos_rows (n : Nat) (le : Nat → Nat → Bool) : ∀ r ∈ (pos n le).1, isSetB (pos n le).1.length r = true := by
  intro r hr
  rw [pos_len]
  obtain ⟨i, _, e⟩ := mkR_mem.1 hr
  exact e ▸ fl_setB _ _

theorem leP_pos {n : Nat} {le : Nat → Nat → Bool} {x y : Nat} (hx : x < n) (hy : y < n) : leP (pos n le) x y = le x y := by
  unfold leP pos
  simp only [List.getD_eq_getElem?_getD, get_mkR hy, Option.getD_some, cs_mem, fl_mem, hx, true_and, Bool.decide_eq_true]

theorem Ord.congr {n : Nat} {le le' : Nat → Nat → Bool} (e : ∀ x y, x < n → y < n → le x y = le' x y) (h : Ord n le) : Ord n le' where
  refl x hx := by rw [← e x x hx hx]; exact h.refl x hx
  anti x y hx hy hxy h1 := by rw [← e y x hy hx]; rw [← e x y hx hy] at h1; exact h.anti x y hx hy hxy h1
  trans x y z hx hy hz h1 h2 := by
    rw [← e x z hx hz]; rw [← e x y hx hy] at h1; rw [← e y z hy hz] at h2
    exact h.trans x y z hx hy hz h1 h2

theorem good_pos {n : Nat} {le : Nat → Nat → Bool} : Good (pos n le) ↔ n ≤ 10 ∧ Ord n le := by
  have e : ∀ x y, x < n → y < n → leP (pos n le) x y = le x y := fun x y hx hy => leP_pos hx hy
  constructor
  · intro h
    have h1 := h.len; have h2 := h.ord
    rw [pos_len] at h1 h2
    exact ⟨h1, h2.congr e⟩
  · intro h
    refine ⟨by rw [pos_len]; exact h.1, pos_rows n le, ?_⟩
    rw [pos_len]
    exact h.2.congr fun x y hx hy => (e x y hx hy).symm

theorem Good.form {p : PT} (h : Good p) : p = pos p.1.length (leP p) := pos_form h.rows

theorem newOrder_eq {n : Nat} (h : n ≤ 4294967296) : zz42 big (n : Int) = some (mkT n fun _ _ => false, ()) := by
  unfold zz42 zz42_s
  rw [mkI_mkR h, Option.bind_some, Option.bind_some, cdt (by omega), mkR_len]
  refine zz42_h3 n (fun i o => o = mkR n fun x => if x < i then mkR n fun _ => false else []) (by omega) ?_ ?_ 0 (by omega) _ (by simp)
  · intro rc i o hi hv ih
    unfold zz42_b3
    rw [cdt (by omega), mkI_mkR h, Option.bind_some, Option.bind_some, cdt (by omega), hv, atI_mkR hi, Option.bind_some, Int.toNat_natCast, get_mkR hi, Option.bind_some, wr1 (by omega)]
    refine ih _ ?_
    rw [mkR_set]
    refine mkR_congr fun x hx => ?_
    by_cases h1 : x = i
    · rw [if_pos h1, if_pos (by omega)]
    · rw [if_neg h1]
      by_cases h2 : x < i
      · rw [if_pos h2, if_pos (by omega)]
      · rw [if_neg h2, if_neg (by omega)]
  · intro rc o hv
    unfold zz42_b3
    rw [cdf (by omega), hv, zz42_a3]
    congr 2
    exact mkR_congr fun x hx => by rw [if_pos hx]

theorem isOrder_eq {n : Nat} {le : Nat → Nat → Bool} (hn : n ≤ 4294967296) : zz46 big (mkT n le) = some (tv (Ord n le), ()) := by
  unfold zz46 zz46_s
  rw [mkR_len]
  refine zz46_h2 n (fun i => ∀ x, x < i → le x x = true ∧ (∀ y, y < n → (x ≠ y → le x y = true → le y x = false) ∧ ∀ z, z < n → le x y = true → le y z = true → le x z = true)) (by omega) ?_ ?_ 0 (by omega) (by intro x hx; omega)
  · intro rc i hi hv ih
    unfold zz46_b2
    rw [cdt (by omega), atI_mkR hi, Option.bind_some, atI_mkR hi, Option.bind_some, mkR_len]
    cases h0 : le i i with
    | false =>
      rw [tv_f fun h => by rw [h.refl i hi] at h0; cases h0]
      rfl
    | true =>
      rw [Bool.not_true, cond_false]
      refine zz46_h7 n (fun j => ∀ y, y < j → (i ≠ y → le i y = true → le y i = false) ∧ ∀ z, z < n → le i y = true → le y z = true → le i z = true) (by omega) ?_ ?_ 0 (by omega) (by intro x hx; omega)
      · intro rc2 j hj hv2 ih2
        have inn : (i ≠ j → le i j = true → le j i = false) → zz46_F12 big rc2 (zz46_a7 rc) (mkT n le) (i : Int) (j : Int) (n : Int) (i : Int) (n : Int) (j : Int) (n : Int) ((0 : Nat) : Int) = some (tv (Ord n le), ()) := by
          intro hij
          refine zz46_h12 n (fun k => ∀ z, z < k → le i j = true → le j z = true → le i z = true) (by omega) ?_ ?_ 0 (by omega) (by intro x hx; omega)
          · intro rc3 k hk hv3 ih3
            unfold zz46_b12
            simp only [cdt (show (k : Int) < (n : Int) by omega), atI_mkR hi, atI_mkR hj, atI_mkR hk, Option.bind_some, wr1 (show k ≤ 4611686018427387904 by omega)]
            cases h1 : le i j with
            | false => exact ih3 (all_lt_succ.2 ⟨hv3, by intro h; rw [h1] at h; cases h⟩)
            | true =>
              cases h2 : le j k with
              | false => exact ih3 (all_lt_succ.2 ⟨hv3, by intro _ h; rw [h2] at h; cases h⟩)
              | true =>
                cases h3 : le i k with
                | false =>
                  rw [tv_f fun h => by rw [h.trans i j k hi hj hk h1 h2] at h3; cases h3]
                  rfl
                | true => exact ih3 (all_lt_succ.2 ⟨hv3, fun _ _ => h3⟩)
          · intro rc3 hv3
            unfold zz46_b12
            rw [cdf (by omega), zz46_a12, wr1 (by omega)]
            exact ih2 (all_lt_succ.2 ⟨hv2, hij, hv3⟩)
        unfold zz46_b7
        rw [cdt (by omega), atI_mkR hi, Option.bind_some, atI_mkR hj, Option.bind_some, atI_mkR hj, Option.bind_some, atI_mkR hi, Option.bind_some, mkR_len]
        by_cases hij : i = j
        · rw [cdf (by omega)]
          exact inn fun h => absurd hij h
        · rw [cdt (by omega)]
          cases h1 : le i j with
          | false => exact inn fun _ h => by rw [h1] at h; cases h
          | true =>
            cases h2 : le j i with
            | false => exact inn fun _ _ => h2
            | true =>
              rw [tv_f fun h => by rw [h.anti i j hi hj hij h1] at h2; cases h2]
              rfl
      · intro rc2 hv2
        unfold zz46_b7
        rw [cdf (by omega), zz46_a7, wr1 (by omega)]
        exact ih (all_lt_succ.2 ⟨hv, h0, hv2⟩)
  · intro rc hv
    unfold zz46_b2
    rw [cdf (by omega), zz46_a2, tv_t]
    exact ⟨fun x hx => (hv x hx).1, fun x y hx hy => ((hv x hx).2 y hy).1, fun x y z hx hy hz => ((hv x hx).2 y hy).2 z hz⟩

theorem mkT_set {α : Type} {n : Nat} {f : Nat → Nat → α} {x y : Nat} {v : α} : (mkT n f).set x ((mkR n (f x)).set y v) = mkT n fun a b => if a = x ∧ b = y then v else f a b := by
  rw [mkR_set]
  refine mkR_congr fun a ha => ?_
  by_cases h : a = x
  · subst h
    rw [if_pos rfl, mkR_set]
    exact mkR_congr fun b hb => by simp
  · rw [if_neg h]
    exact mkR_congr fun b hb => by simp [h]

theorem orderOf_eq (p : PT) (hl : p.1.length ≤ 10) (hx : ∀ r ∈ p.1, r.length ≤ 4294967296) :
    zz47 big p = some (@ite _ (∀ r ∈ p.1, isSetB p.1.length r = true) (Classical.propDecidable _) (mkT p.1.length (leP p), tv (Ord p.1.length (leP p)), ()) ([], false, ()), ()) := by
  unfold zz47 zz47_s
  generalize hn : p.1.length = n
  rw [cdf (by omega), newOrder_eq (by omega), Option.bind_some]
  refine zz47_h6 n (fun i o => (∀ j, j < i → ∀ (h : j < p.1.length), isSetB n p.1[j] = true) ∧ o = mkT n fun a b => decide (b < i) && leP p a b) (by omega) ?_ ?_ 0 (by omega) _ ⟨by intro j hj; omega, mkT_congr fun a b _ _ => by simp⟩
  · intro rc i o hi hv ih
    obtain ⟨hv1, hv2⟩ := hv
    unfold zz47_b6
    have hip : i < p.1.length := by omega
    have hrow := hx _ (List.getElem_mem hip)
    rw [cdt (by omega), atI_lt _ i hip, Option.bind_some, rises_eq _ (by omega), Option.bind_some]
    cases h1 : risingB p.1[i] with
    | false =>
      rw [if_neg fun h => by have := h _ (List.getElem_mem hip); unfold isSetB at this; rw [h1, Bool.and_false] at this; cases this]
      rfl
    | true =>
      rw [Bool.not_true, cond_false, inSize_eq n _ (by omega), Option.bind_some]
      cases h2 : p.1[i].all (inB n) with
      | false =>
        rw [if_neg fun h => by have := h _ (List.getElem_mem hip); unfold isSetB at this; rw [h2, Bool.false_and] at this; cases this]
        rfl
      | true =>
        rw [Bool.not_true, cond_false]
        have hset : isSetB n p.1[i] = true := by unfold isSetB; rw [h1, h2]; rfl
        have hle : ∀ a, leP p a i = decide ((a : Int) ∈ p.1[i]) := by intro a; unfold leP; simp [hip]
        have hform := setB_form hset
        have hS : ∀ a, a ∈ fl n (fun x => decide ((x : Int) ∈ p.1[i])) ↔ a < n ∧ leP p a i = true := by
          intro a; rw [fl_mem, hle]
        generalize fl n (fun x => decide ((x : Int) ∈ p.1[i])) = S at hform hS
        rw [hform, cs_len]
        refine zz47_h11 S.length (fun k o => o = mkT n fun a b => if b < i then leP p a b else decide (b = i ∧ a ∈ S.take k)) ?_ ?_ ?_ 0 (by omega) _ ?_
        · have := congrArg List.length hform
          rw [cs_len] at this
          have := hx _ (List.getElem_mem hip)
          omega
        · intro rc2 k o2 hk hv3 ih2
          have hkn : S[k] < n := ((hS _).1 (List.getElem_mem hk)).1
          have hkS : S.length ≤ 4294967296 := by have := congrArg List.length hform; rw [cs_len] at this; omega
          unfold zz47_b11
          simp only [cdt (show (k : Int) < (S.length : Int) by omega), atI_cs hk, Option.bind_some, hv3, atI_mkR hkn, Int.toNat_natCast, get_mkR hkn, atI_mkR hi, get_mkR hi, wr1 (show k ≤ 4611686018427387904 by omega)]
          refine ih2 _ ?_
          rw [mkT_set]
          refine mkT_congr fun a b _ _ => ?_
          by_cases hb : b < i
          · rw [if_pos hb, if_pos hb, if_neg (by omega)]
          · rw [if_neg hb, if_neg hb]
            simp only [mem_take_succ hk]
            by_cases hbi : b = i
            · by_cases ha : a = S[k]
              · simp [hbi, ha]
              · simp [hbi, ha]
            · simp [hbi]
        · intro rc2 o2 hv3
          unfold zz47_b11
          rw [cdf (by omega), zz47_a11, wr1 (by omega)]
          refine ih _ ⟨fun j hj hjp => ?_, ?_⟩
          · rcases Nat.lt_or_ge j i with h | h
            · exact hv1 j h hjp
            · have : j = i := by omega
              subst this; exact hset
          · rw [hv3]
            refine mkT_congr fun a b ha _ => ?_
            by_cases hb : b < i
            · rw [if_pos hb]; simp [show b < i + 1 by omega]
            · rw [if_neg hb, List.take_length]
              by_cases hbi : b = i
              · subst hbi
                rw [decide_eq_true (show b < b + 1 by omega), Bool.true_and]
                cases h : leP p a b with
                | true => exact decide_eq_true ⟨rfl, (hS a).2 ⟨ha, h⟩⟩
                | false => exact decide_eq_false fun h3 => by rw [((hS a).1 h3.2).2] at h; cases h
              · simp [hbi, show ¬ b < i + 1 by omega]
        · rw [hv2]
          refine mkT_congr fun a b _ _ => ?_
          by_cases hb : b < i
          · simp [hb]
          · simp [hb]
  · intro rc o hv
    obtain ⟨hv1, hv2⟩ := hv
    unfold zz47_b6
    have ho : o = mkT n (leP p) := by rw [hv2]; exact mkT_congr fun a b _ hb => by simp [hb]
    rw [cdf (by omega), zz47_a6, ho, isOrder_eq (by omega), Option.bind_some, if_pos]
    intro r hr
    obtain ⟨j, hj, e⟩ := List.getElem_of_mem hr
    exact e ▸ hv1 j (by omega) hj

theorem orderOf_bad (p : PT) (hl : ¬ p.1.length ≤ 10) : zz47 big p = some (([], false, ()), ()) := by
  unfold zz47 zz47_s
  rw [cdt (by omega)]

theorem orderOf_no (p : PT) (hx : ∀ r ∈ p.1, r.length ≤ 4294967296) (h : ¬ Good p) : ∃ T, zz47 big p = some ((T, false, ()), ()) := by
  by_cases hl : p.1.length ≤ 10
  · rw [orderOf_eq p hl hx]
    by_cases hr : ∀ r ∈ p.1, isSetB p.1.length r = true
    · rw [if_pos hr, tv_f fun ho => h ⟨hl, hr, ho⟩]
      exact ⟨_, rfl⟩
    · rw [if_neg hr]
      exact ⟨_, rfl⟩
  · exact ⟨_, orderOf_bad p hl⟩

theorem orderOf_pos {n : Nat} {le : Nat → Nat → Bool} (hn : n ≤ 10) (ho : Ord n le) : zz47 big (pos n le) = some ((mkT n le, true, ()), ()) := by
  have e : ∀ x y, x < n → y < n → leP (pos n le) x y = le x y := fun x y hx hy => leP_pos hx hy
  rw [orderOf_eq _ (by rw [pos_len]; exact hn) ?_, if_pos (pos_rows n le), pos_len, tv_t (ho.congr fun x y hx hy => (e x y hx hy).symm)]
  · congr 3
    exact mkT_congr fun x y hx hy => e x y hx hy
  · intro r hr
    obtain ⟨i, _, h⟩ := mkR_mem.1 hr
    rw [← h, cs_len]
    have := fl_len n fun x => le x i
    omega

theorem atI_pos {n x : Nat} {le : Nat → Nat → Bool} (hx : x < n) : atI (pos n le).1 (x : Int) = some (cs (fl n fun a => le a x)) := atI_mkR hx

theorem l23Leq_pos {n x y : Nat} {le : Nat → Nat → Bool} (hn : n ≤ 4294967296) (hx : x < n) (hy : y < n) : zz19 (pos n le) (x : Int) (y : Int) = some (le x y, ()) := by
  unfold zz19 zz19_s
  have := fl_len n fun a => le a y
  rw [atI_pos hy, Option.bind_some, l1Has_cs _ _ (by omega), Option.bind_some]
  congr 2
  rw [Bool.eq_iff_iff, decide_eq_true_eq, fl_mem]
  simp [hx]

theorem within_fl {n : Nat} {P Q : Nat → Bool} (hn : n ≤ 4294967296) : zz17 big (cs (fl n P)) (cs (fl n Q)) = some (tv (∀ x, x < n → P x = true → Q x = true), ()) := by
  have h1 := fl_len n P
  have h2 := fl_len n Q
  rw [l5Within_eq _ _ (by rw [cs_len]; omega) (by rw [cs_len]; omega)]
  congr 2
  refine tv_congr ⟨fun h x hx hp => ?_, fun h x hx => ?_⟩
  · exact (fl_mem.1 (cs_mem.1 (h _ (cs_mem.2 (fl_mem.2 ⟨hx, hp⟩))))).2
  · unfold cs at hx
    obtain ⟨y, hy, e⟩ := List.mem_map.1 hx
    have := fl_mem.1 hy
    rw [← e]
    exact cs_mem.2 (fl_mem.2 ⟨this.1, h y this.1 this.2⟩)

theorem specPoset_eq (p : PT) (hx : ∀ r ∈ p.1, r.length ≤ 4294967296) : zz18 big p = some (tv (Good p), ()) := by
  unfold zz18 zz18_s
  by_cases hl : p.1.length ≤ 10
  · generalize hn : p.1.length = n
    rw [cdf (by omega)]
    refine zz18_h5 n (fun i => ∀ j, j < i → ∀ (h : j < p.1.length), isSetB n p.1[j] = true ∧ leP p j j = true) (by omega) ?_ ?_ 0 (by omega) (by intro j hj; omega)
    · intro rc i hi hv ih
      have hip : i < p.1.length := by omega
      have hrow := hx _ (List.getElem_mem hip)
      have hle : ∀ a, leP p a i = decide ((a : Int) ∈ p.1[i]) := by intro a; unfold leP; simp [hip]
      unfold zz18_b5
      rw [cdt (by omega), atI_lt _ i hip, Option.bind_some, wr (by omega) (by omega), specRising_eq n _ (by omega) (by omega), Option.bind_some]
      cases h1 : isSetB n p.1[i] with
      | false =>
        rw [tv_f fun h => by have := h.rows _ (List.getElem_mem hip); rw [hn, h1] at this; cases this]
        rfl
      | true =>
        rw [Bool.not_true, cond_false, Option.bind_some, l1Has_eq _ _ hrow, Option.bind_some, ← hle]
        cases h2 : leP p i i with
        | false =>
          rw [tv_f fun h => by have := h.ord.refl i hip; rw [h2] at this; cases this]
          rfl
        | true =>
          rw [Bool.not_true, cond_false, wr1 (by omega)]
          refine ih fun j hj hjp => ?_
          rcases Nat.lt_or_ge j i with h | h
          · exact hv j h hjp
          · have : j = i := by omega
            subst this; exact ⟨h1, h2⟩
    · intro rc hv
      unfold zz18_b5
      rw [cdf (by omega), zz18_a5]
      have hrows : ∀ r ∈ p.1, isSetB p.1.length r = true := by
        intro r hr
        obtain ⟨j, hj, e⟩ := List.getElem_of_mem hr
        rw [hn]
        exact e ▸ (hv j (by omega) hj).1
      have hform := pos_form hrows
      have hrefl : ∀ x, x < n → leP p x x = true := fun x hxn => (hv x hxn (by omega)).2
      generalize leP p = le at hform hrefl
      rw [hn] at hform
      subst hform
      rw [tv_congr good_pos]
      refine zz18_h10 n (fun i => ∀ x, x < i → ∀ y, y < n → le y x = true → (y ≠ x → le x y = false) ∧ ∀ z, z < n → le z y = true → le z x = true) (by omega) ?_ ?_ 0 (by omega) (by intro j hj; omega)
      · intro rc2 i hi hv2 ih2
        unfold zz18_b10
        rw [cdt (by omega)]
        have hS : ∀ a, a ∈ fl n (fun a => le a i) ↔ a < n ∧ le a i = true := fun a => fl_mem
        have hSl := fl_len n fun a => le a i
        refine zz18_h13 (fl n fun a => le a i).length (fun k => ∀ y ∈ (fl n fun a => le a i).take k, (y ≠ i → le i y = false) ∧ ∀ z, z < n → le z y = true → le z i = true) (by omega) ?_ ?_ 0 (by omega) (by simp)
        · intro rc3 k hk hv3 ih3
          have hk2 := (hS _).1 (List.getElem_mem hk)
          have hk3 := atI_cs hk
          have hk4 : ∀ {P : Nat → Prop}, (∀ y ∈ (fl n fun a => le a i).take (k + 1), P y) ↔ _ := all_take_succ hk
          unfold zz18_b13
          generalize (fl n fun a => le a i)[k] = y at hk2 hk3 hk4
          have hkl := fl_len n fun a => le a y
          simp only [atI_pos hi, Option.bind_some, cs_len, cdt (show (k : Int) < ((fl n fun a => le a i).length : Int) by omega), hk3, atI_pos hk2.1, l1Has_cs (fl n fun a => le a y) i (by omega), within_fl (P := fun a => le a y) (Q := fun a => le a i) (show n ≤ 4294967296 by omega), wr1 (show k ≤ 4611686018427387904 by omega)]
          have e1 : decide (i ∈ fl n fun a => le a y) = le i y := by
            rw [Bool.eq_iff_iff, decide_eq_true_eq, fl_mem]; simp [hi]
          rw [e1]
          have key : (y ≠ i → le i y = false) → cond (!tv (∀ x, x < n → le x y = true → le x i = true)) (some (false, ())) (rc3 (pos n le) (n : Int) (i : Int) ((k + 1 : Nat) : Int)) = some (tv (n ≤ 10 ∧ Ord n le), ()) := by
            intro h1
            by_cases h2 : ∀ x, x < n → le x y = true → le x i = true
            · rw [tv_t h2]
              exact ih3 (hk4.2 ⟨hv3, h1, h2⟩)
            · rw [tv_f h2, tv_f fun h => h2 fun x hxn h3 => h.2.trans _ _ _ hxn hk2.1 hi h3 hk2.2]
              rfl
          by_cases h1 : y = i
          · rw [cdf (by omega)]
            exact key fun h => absurd h1 h
          · rw [cdt (by omega)]
            cases h2 : le i y with
            | true =>
              rw [tv_f (P := n ≤ 10 ∧ Ord n le) fun h => by rw [h.2.anti _ _ hk2.1 hi h1 hk2.2] at h2; cases h2]
              rfl
            | false =>
              rw [cond_false]
              exact key fun _ => h2
        · intro rc3 hv3
          rw [List.take_length] at hv3
          unfold zz18_b13
          rw [atI_pos hi, Option.bind_some, cs_len, cdf (by omega), zz18_a13, wr1 (by omega)]
          exact ih2 (all_lt_succ.2 ⟨hv2, fun y hy hyi => hv3 y ((hS y).2 ⟨hy, hyi⟩)⟩)
      · intro rc2 hv2
        unfold zz18_b10
        rw [cdf (by omega), zz18_a10, tv_t]
        refine ⟨by rw [pos_len] at hl; exact hl, fun x hx => hrefl x hx, fun x y hx hy hxy h => ((hv2 y hy x hx h).1 hxy), fun x y z hx hy hz h1 h2 => (hv2 z hz y hy h2).2 x hx h1⟩
  · rw [cdt (by omega), tv_f fun h => hl h.len]

abbrev du (le : Nat → Nat → Bool) : Nat → Nat → Bool := fun x y => le y x

def low (n : Nat) (le : Nat → Nat → Bool) (S : List Nat) : List Nat := fl n fun z => S.all fun s => le z s

def grt (le : Nat → Nat → Bool) (L : List Nat) : Int := match L.find? fun x => L.all fun y => le y x with
  | some x => (x : Int)
  | none => -1

def bnd (n : Nat) (le : Nat → Nat → Bool) (S : List Nat) : Int := grt le (low n le S)

structure IsGlb (n : Nat) (le : Nat → Nat → Bool) (S : List Nat) (m : Nat) : Prop where
  lt : m < n
  lo : ∀ s ∈ S, le m s = true
  gr : ∀ z, z < n → (∀ s ∈ S, le z s = true) → le z m = true

theorem low_mem {n : Nat} {le : Nat → Nat → Bool} {S : List Nat} {z : Nat} : z ∈ low n le S ↔ z < n ∧ ∀ s ∈ S, le z s = true := by
  unfold low
  rw [fl_mem, List.all_eq_true]

theorem glb_of_bnd {n : Nat} {le : Nat → Nat → Bool} {S : List Nat} (h : 0 ≤ bnd n le S) : IsGlb n le S (bnd n le S).toNat := by
  unfold bnd grt at *
  cases hf : (low n le S).find? fun x => (low n le S).all fun y => le y x with
  | none => rw [hf] at h; exact absurd h (by decide)
  | some x =>
    have h1 := List.find?_some hf
    have h2 := low_mem.1 (List.mem_of_find?_eq_some hf)
    simp only [Int.toNat_natCast]
    exact ⟨h2.1, h2.2, fun z hz hs => List.all_eq_true.1 h1 z (low_mem.2 ⟨hz, hs⟩)⟩

theorem glb_unique {n : Nat} {le : Nat → Nat → Bool} (ho : Ord n le) {S : List Nat} {m k : Nat} (h : IsGlb n le S m) (h2 : IsGlb n le S k) : m = k := by
  by_cases e : m = k
  · exact e
  · have h3 := h.gr k h2.lt h2.lo
    have h4 := h2.gr m h.lt h.lo
    have := ho.anti m k h.lt h2.lt e h4
    rw [this] at h3; cases h3

theorem bnd_of_glb {n : Nat} {le : Nat → Nat → Bool} (ho : Ord n le) {S : List Nat} {m : Nat} (h : IsGlb n le S m) : bnd n le S = (m : Int) := by
  have h0 : 0 ≤ bnd n le S := by
    unfold bnd grt
    cases hf : (low n le S).find? fun x => (low n le S).all fun y => le y x with
    | none =>
      have := List.find?_eq_none.1 hf m (low_mem.2 ⟨h.lt, h.lo⟩)
      exact absurd (List.all_eq_true.2 fun y hy => h.gr y (low_mem.1 hy).1 (low_mem.1 hy).2) this
    | some x => simp
  have := glb_unique ho (glb_of_bnd h0) h
  omega

theorem greatest_eq {n : Nat} {le : Nat → Nat → Bool} {L : List Nat} (hL : ∀ x ∈ L, x < n) (hl : L.length ≤ 4294967296) : zz48 big (mkT n le) (cs L) = some (grt le L, ()) := by
  unfold zz48 zz48_s
  rw [cs_len]
  refine zz48_h2 L.length (fun i => ∀ x ∈ L.take i, ¬ (L.all fun y => le y x) = true) (by omega) ?_ ?_ 0 (by omega) (by simp)
  · intro rc i hi hv ih
    have hx := hL _ (List.getElem_mem hi)
    have hh := @find_hit _ L (fun x => L.all fun y => le y x) i hi hv
    have hn := fun h => ih ((all_take_succ hi).2 ⟨hv, h⟩)
    unfold zz48_b2
    rw [cdt (by omega), atI_cs hi, Option.bind_some, cs_len]
    generalize L[i] = x at hx hh hn
    refine zz48_h6 L.length (fun k b => b = (L.take k).all fun y => le y x) (by omega) ?_ ?_ 0 (by omega) _ rfl
    · intro rc2 k b hk hb ih2
      have hy := hL _ (List.getElem_mem hk)
      have ht := @all_take _ L k hk fun y => le y x
      have ha := atI_cs hk
      unfold zz48_b6
      rw [cdt (by omega), ha, Option.bind_some, wr1 (by omega)]
      generalize L[k] = y at hy ht
      cases b with
      | false => exact ih2 _ (by rw [ht, ← hb]; rfl)
      | true =>
        rw [cond_true, atI_mkR hy, Option.bind_some, atI_mkR hx, Option.bind_some]
        exact ih2 _ (by rw [ht, ← hb]; rfl)
    · intro rc2 b hb
      rw [List.take_length] at hb
      unfold zz48_b6
      rw [cdf (by omega), zz48_a6, hb]
      cases h : L.all fun y => le y x with
      | true =>
        rw [cond_true]
        unfold grt
        rw [hh h]
      | false =>
        rw [cond_false, wr1 (by omega)]
        exact hn (by rw [h]; simp)
  · intro rc hv
    rw [List.take_length] at hv
    unfold zz48_b2
    rw [cdf (by omega), zz48_a2]
    unfold grt
    rw [List.find?_eq_none.2 hv]

theorem low2 {n : Nat} {le : Nat → Nat → Bool} {x y : Nat} : low n le [x, y] = fl n fun z => le z x && le z y := by
  unfold low
  congr 1; funext z; simp

theorem those_meet {n : Nat} {le : Nat → Nat → Bool} (hn : n ≤ 1048576) {x y : Nat} (hx : x < n) (hy : y < n) : zz50 big (mkT n le) (mkT n le, (x : Int), (y : Int), ()) = some (cs (low n le [x, y]), ()) := by
  unfold zz50 zz50_s
  rw [mkR_len, low2]
  refine zz50_h3 n (fun i l => l = cs (fl i fun z => le z x && le z y)) (by omega) ?_ ?_ 0 (by omega) _ rfl
  · intro rc i l hi hv ih
    have hl := fl_len i fun z => le z x && le z y
    unfold zz50_b3 zz49 zz49_s
    simp only [cdt (show (i : Int) < (n : Int) by omega), atI_mkR hi, atI_mkR hx, atI_mkR hy, Option.bind_some, wr1 (show i ≤ 4611686018427387904 by omega)]
    cases h1 : le i x with
    | false => exact ih _ (by rw [hv]; exact fl_f (P := fun z => le z x && le z y) (by simp [h1]))
    | true =>
      simp only [cond_true, Option.bind_some]
      cases h2 : le i y with
      | false => exact ih _ (by rw [hv]; exact fl_f (P := fun z => le z x && le z y) (by simp [h1, h2]))
      | true =>
        rw [cond_true, app1 (by rw [hv, cs_len]; omega), Option.bind_some]
        exact ih _ (by rw [hv]; exact fl_t (P := fun z => le z x && le z y) (by simp [h1, h2]))
  · intro rc l hv
    unfold zz50_b3
    rw [cdf (by omega), zz50_a3, hv]

theorem low_lt {n : Nat} {le : Nat → Nat → Bool} {S : List Nat} : ∀ x ∈ low n le S, x < n := fun x hx => (low_mem.1 hx).1

theorem low_len {n : Nat} {le : Nat → Nat → Bool} {S : List Nat} : (low n le S).length ≤ n := fl_len _ _

theorem meetTable_eq {n : Nat} {le : Nat → Nat → Bool} (hn : n ≤ 1048576) : zz51 big (mkT n le) = some (@ite _ (∀ x y, x < n → y < n → 0 ≤ bnd n le [x, y]) (Classical.propDecidable _) (mkT n fun x y => bnd n le [x, y], true, ()) ([], false, ()), ()) := by
  unfold zz51 zz51_s
  rw [mkR_len]
  refine zz51_h3 n (fun i t => t = (mkR i fun x => mkR n fun y => bnd n le [x, y]) ∧ ∀ x, x < i → ∀ y, y < n → 0 ≤ bnd n le [x, y]) (by omega) ?_ ?_ 0 (by omega) _ ⟨rfl, by intro x hx; omega⟩
  · intro rc i t hi hv ih
    unfold zz51_b3
    rw [cdt (by omega), mkR_len]
    refine zz51_h7 n (fun j r => r = (mkR j fun y => bnd n le [i, y]) ∧ ∀ y, y < j → 0 ≤ bnd n le [i, y]) (by omega) ?_ ?_ 0 (by omega) _ ⟨rfl, by intro x hx; omega⟩
    · intro rc2 j r hj hr ih2
      unfold zz51_b7
      rw [cdt (by omega), those_meet hn hi hj, Option.bind_some, greatest_eq low_lt (by have := @low_len n le [i, j]; omega), Option.bind_some]
      show cond (decide (bnd n le [i, j] < 0)) _ ((appI r [bnd n le [i, j]]).bind _) = _
      by_cases h : 0 ≤ bnd n le [i, j]
      · rw [cdf (by omega), app1 (by rw [hr.1, mkR_len]; omega), Option.bind_some, wr1 (by omega)]
        exact ih2 _ ⟨by rw [hr.1]; exact (mkR_succ j _).symm, all_lt_succ.2 ⟨hr.2, h⟩⟩
      · rw [cdt (by omega), if_neg fun h2 => h (h2 i j hi hj)]
    · intro rc2 r hr
      unfold zz51_b7
      rw [cdf (by omega), zz51_a7, app1 (by rw [hv.1, mkR_len]; omega), Option.bind_some, wr1 (by omega)]
      refine ih _ ⟨?_, all_lt_succ.2 ⟨hv.2, hr.2⟩⟩
      rw [hv.1, hr.1]
      exact (mkR_succ i fun x => mkR n fun y => bnd n le [x, y]).symm
  · intro rc t hv
    unfold zz51_b3
    rw [cdf (by omega), zz51_a3, if_pos fun x y hx hy => hv.2 x hx y hy, hv.1]

theorem dual_eq {n : Nat} {le : Nat → Nat → Bool} (hn : n ≤ 1048576) : zz52 big (mkT n le) = some (mkT n (du le), ()) := by
  unfold zz52 zz52_s
  rw [mkR_len, newOrder_eq (by omega), Option.bind_some]
  refine zz52_h3 n (fun i d => d = mkT n fun a b => decide (a < i) && le b a) (by omega) ?_ ?_ 0 (by omega) _ (mkT_congr fun a b _ _ => by simp)
  · intro rc i d hi hv ih
    unfold zz52_b3
    rw [cdt (by omega), mkR_len]
    refine zz52_h6 n (fun j d => d = mkT n fun a b => (decide (a < i) || decide (a = i) && decide (b < j)) && le b a) (by omega) ?_ ?_ 0 (by omega) _ (by rw [hv]; exact mkT_congr fun a b _ _ => by simp)
    · intro rc2 j d2 hj hv2 ih2
      unfold zz52_b6
      generalize hf : (fun a b => (decide (a < i) || decide (a = i) && decide (b < j)) && le b a) = f at hv2
      simp only [cdt (show (j : Int) < (n : Int) by omega), hv2, atI_mkR hi, get_mkR hi, Option.bind_some, atI_mkR hj, get_mkR hj, Int.toNat_natCast, wr1 (show j ≤ 4611686018427387904 by omega)]
      refine ih2 _ ?_
      rw [mkT_set, ← hf]
      refine mkT_congr fun a b _ _ => ?_
      by_cases h1 : a = i
      · subst h1
        by_cases h2 : b = j
        · subst h2; simp
        · rw [if_neg fun h => h2 h.2, show decide (b < j + 1) = decide (b < j) from decide_eq_decide.2 (by omega)]
      · rw [if_neg fun h => h1 h.1]; simp [h1]
    · intro rc2 d2 hv2
      unfold zz52_b6
      rw [cdf (by omega), zz52_a6, wr1 (by omega)]
      refine ih _ ?_
      rw [hv2]
      refine mkT_congr fun a b _ hb => ?_
      congr 1
      rw [decide_eq_true hb, Bool.and_true, ← Bool.decide_or]
      exact decide_eq_decide.2 (by omega)
  · intro rc d hv
    unfold zz52_b3
    rw [cdf (by omega), zz52_a3, hv]
    congr 2
    exact mkT_congr fun a b ha _ => by simp [ha]

structure Lat (n : Nat) (le : Nat → Nat → Bool) : Prop where
  ne : 0 < n
  meet : ∀ x y, x < n → y < n → 0 ≤ bnd n le [x, y]
  join : ∀ x y, x < n → y < n → 0 ≤ bnd n (du le) [x, y]

def mt (n : Nat) (le : Nat → Nat → Bool) (x y : Nat) : Nat := (bnd n le [x, y]).toNat

def gb (n : Nat) (le : Nat → Nat → Bool) (S : List Nat) : Nat := (bnd n le S).toNat

def lat (n : Nat) (le : Nat → Nat → Bool) : List (List Bool) × List (List Int) × List (List Int) × Unit :=
  (mkT n le, mkT n (fun x y => ((mt n le x y : Nat) : Int)), mkT n (fun x y => ((mt n (du le) x y : Nat) : Int)), ())

structure LatP (n : Nat) (le : Nat → Nat → Bool) : Prop where
  le10 : n ≤ 10
  ord : Ord n le
  lat : Lat n le

theorem latticeOf_pos {n : Nat} {le : Nat → Nat → Bool} (h : LatP n le) : zz53 (pos n le) = some ((some (lat n le), true, ()), ()) := by
  have h10 := h.le10
  have h0 := h.lat.ne
  unfold zz53 zz53_s
  simp only [orderOf_pos h.le10 h.ord, Option.bind_some, Bool.not_true, cond_false, mkR_len, cdf (show ¬ ((n : Int) = 0) by omega), meetTable_eq (le := le) (show n ≤ 1048576 by omega), dual_eq (le := le) (show n ≤ 1048576 by omega), meetTable_eq (le := du le) (show n ≤ 1048576 by omega)]
  rw [if_pos h.lat.meet, if_pos h.lat.join]
  simp only [cond_true]
  have e1 : (mkT n fun x y => bnd n le [x, y]) = mkT n fun x y => ((mt n le x y : Nat) : Int) := mkT_congr fun x y hx hy => by
    have := h.lat.meet x y hx hy
    unfold mt; omega
  have e2 : (mkT n fun x y => bnd n (du le) [x, y]) = mkT n fun x y => ((mt n (du le) x y : Nat) : Int) := mkT_congr fun x y hx hy => by
    have := h.lat.join x y hx hy
    unfold mt; omega
  rw [e1, e2]
  rfl

theorem latticeOf_no {p : PT} (hx : ∀ r ∈ p.1, r.length ≤ 4294967296) (h : ¬ (Good p ∧ Lat p.1.length (leP p))) : ∃ l, zz53 p = some ((l, false, ()), ()) := by
  by_cases hg : Good p
  · have hf := hg.form
    have ho := hg.ord
    have h10 := hg.len
    replace h : ¬ Lat p.1.length (leP p) := fun hl => h ⟨hg, hl⟩
    generalize p.1.length = n at *
    generalize leP p = le at *
    subst hf
    unfold zz53 zz53_s
    simp only [orderOf_pos h10 ho, Option.bind_some, Bool.not_true, cond_false, mkR_len, meetTable_eq (le := le) (show n ≤ 1048576 by omega), dual_eq (le := le) (show n ≤ 1048576 by omega), meetTable_eq (le := du le) (show n ≤ 1048576 by omega)]
    by_cases h0 : n = 0
    · rw [cdt (by omega)]
      exact ⟨_, rfl⟩
    · rw [cdf (by omega)]
      by_cases h1 : ∀ x y, x < n → y < n → 0 ≤ bnd n le [x, y]
      · rw [if_pos h1]
        by_cases h2 : ∀ x y, x < n → y < n → 0 ≤ bnd n (du le) [x, y]
        · exact absurd ⟨by omega, h1, h2⟩ h
        · rw [if_neg h2]
          exact ⟨_, rfl⟩
      · rw [if_neg h1]
        exact ⟨_, rfl⟩
  · obtain ⟨T, hT⟩ := orderOf_no p hx hg
    unfold zz53 zz53_s
    rw [hT, Option.bind_some]
    exact ⟨_, rfl⟩

theorem specDual_pos {n : Nat} {le : Nat → Nat → Bool} (hn : n ≤ 1048576) : zz20 big (pos n le) = some (pos n (du le), ()) := by
  unfold zz20 zz20_s
  refine zz20_h3 n (fun i o => o.1 = mkR i fun y => cs (fl n fun x => le y x)) (by omega) ?_ ?_ 0 (by omega) _ rfl
  · intro rc i o hi hv ih
    unfold zz20_b3
    rw [pos_len, cdt (by omega)]
    refine zz20_h7 n (fun j l => l = cs (fl j fun x => le i x)) (by omega) ?_ ?_ 0 (by omega) _ rfl
    · intro rc2 j l hj hl ih2
      have hlen := fl_len j fun x => le i x
      unfold zz20_b7
      rw [pos_len, cdt (by omega), l23Leq_pos (by omega) hi hj, Option.bind_some, wr1 (by omega)]
      cases h : le i j with
      | true =>
        rw [cond_true, app1 (by rw [hl, cs_len]; omega), Option.bind_some]
        exact ih2 _ (by rw [hl]; exact fl_t (P := fun x => le i x) h)
      | false => exact ih2 _ (by rw [hl]; exact fl_f (P := fun x => le i x) h)
    · intro rc2 l hl
      unfold zz20_b7
      rw [pos_len, cdf (by omega), zz20_a7, app1 (by rw [hv, mkR_len]; omega), Option.bind_some, wr1 (by omega)]
      exact ih _ (by rw [hl]; show o.1 ++ _ = _; rw [hv]; exact (mkR_succ i fun y => cs (fl n fun x => le y x)).symm)
  · intro rc o hv
    unfold zz20_b3
    rw [pos_len, cdf (by omega), zz20_a3]
    unfold pos
    congr 2
    exact Prod.ext hv rfl

theorem specBound_pos {n : Nat} {le : Nat → Nat → Bool} (hn : n ≤ 1048576) {S : List Nat} (hS : ∀ s ∈ S, s < n) (hSl : S.length ≤ 4294967296) : zz21 big (pos n le) (cs S) = some (bnd n le S, ()) := by
  unfold zz21 zz21_s
  refine zz21_h3 n (fun i l => l = cs (fl i fun z => S.all fun s => le z s)) (by omega) ?_ ?_ 0 (by omega) _ rfl
  · intro rc i l hi hv ih
    have hlen := fl_len i fun z => S.all fun s => le z s
    unfold zz21_b3
    rw [pos_len, cdt (by omega)]
    refine zz21_h7 S.length (fun k b => b = (S.take k).all fun s => le i s) (by omega) ?_ ?_ 0 (by omega) _ rfl
    · intro rc2 k b hk hb ih2
      have hs := hS _ (List.getElem_mem hk)
      have ht := @all_take _ S k hk fun s => le i s
      have ha := atI_cs hk
      unfold zz21_b7
      rw [cs_len, cdt (by omega), ha, Option.bind_some, wr1 (by omega)]
      generalize S[k] = s at hs ht
      rw [l23Leq_pos (by omega) hi hs, Option.bind_some]
      cases b with
      | true => exact ih2 _ (by rw [ht, ← hb]; rfl)
      | false => exact ih2 _ (by rw [ht, ← hb]; rfl)
    · intro rc2 b hb
      rw [List.take_length] at hb
      unfold zz21_b7
      rw [cs_len, cdf (by omega), zz21_a7, wr1 (by omega)]
      cases b with
      | true =>
        rw [cond_true, app1 (by rw [hv, cs_len]; omega), Option.bind_some]
        exact ih _ (by rw [hv]; exact fl_t (P := fun z => S.all fun s => le z s) hb.symm)
      | false => exact ih _ (by rw [hv]; exact fl_f (P := fun z => S.all fun s => le z s) hb.symm)
  · intro rc l hv
    unfold zz21_b3
    rw [pos_len, cdf (by omega), zz21_a3]
    replace hv : l = cs (low n le S) := hv
    rw [hv]
    have hll := @low_len n le S
    unfold bnd
    have hlt := @low_lt n le S
    have hfl : low n le S = fl n fun z => S.all fun s => le z s := rfl
    have hw : ∀ x, x < n → zz17 big (cs (low n le S)) (cs (fl n fun a => le a x)) = some ((low n le S).all fun y => le y x, ()) := by
      intro x hx
      rw [hfl, within_fl (by omega), ← hfl]
      congr 2
      exact tv_eq (by rw [List.all_eq_true]; exact ⟨fun h y hy hp => h y (fl_mem.2 ⟨hy, hp⟩), fun h y hy => h y (fl_mem.1 hy).1 (fl_mem.1 hy).2⟩)
    generalize low n le S = L at *
    refine zz21_h13 L.length (fun i => ∀ x ∈ L.take i, ¬ (L.all fun y => le y x) = true) (by omega) ?_ ?_ 0 (by omega) (by simp)
    · intro rc2 i hi hv2 ih2
      have hx := hlt _ (List.getElem_mem hi)
      have hh := @find_hit _ L (fun x => L.all fun y => le y x) i hi hv2
      have hn2 := fun h => ih2 ((all_take_succ hi).2 ⟨hv2, h⟩)
      have ha := atI_cs hi
      have hg := get_cs hi
      unfold zz21_b13
      simp only [cs_len, cdt (show (i : Int) < (L.length : Int) by omega), ha, Option.bind_some, Int.toNat_natCast, hg, wr1 (show i ≤ 4611686018427387904 by omega)]
      generalize L[i] = x at hx hh hn2
      rw [atI_pos hx, Option.bind_some, hw x hx, Option.bind_some]
      cases h : L.all fun y => le y x with
      | true =>
        rw [cond_true]
        unfold grt
        rw [hh h]
      | false =>
        rw [cond_false]
        exact hn2 (by rw [h]; simp)
    · intro rc2 hv2
      rw [List.take_length] at hv2
      unfold zz21_b13
      rw [cs_len, cdf (by omega), zz21_a13]
      unfold grt
      rw [List.find?_eq_none.2 hv2]

theorem bnd_swap {n : Nat} {le : Nat → Nat → Bool} (x y : Nat) : bnd n le [x, y] = bnd n le [y, x] := by
  unfold bnd
  congr 1
  unfold low
  congr 1; funext z; simp [Bool.and_comm]

theorem Ord.du {n : Nat} {le : Nat → Nat → Bool} (h : Ord n le) : Ord n (du le) where
  refl := h.refl
  anti x y hx hy hxy h1 := by
    have h3 : le y x = true := h1
    show le x y = false
    by_cases h2 : le x y = true
    · rw [h.anti x y hx hy hxy h2] at h3; cases h3
    · simpa using h2
  trans x y z hx hy hz h1 h2 := h.trans z y x hz hy hx h2 h1

theorem bnd_self {n : Nat} {le : Nat → Nat → Bool} (ho : Ord n le) {x : Nat} (hx : x < n) : bnd n le [x, x] = (x : Int) :=
  bnd_of_glb ho ⟨hx, by simp [ho.refl x hx], fun z _ h => h x (by simp)⟩

theorem spec24_eq (p : PT) (hx : ∀ r ∈ p.1, r.length ≤ 4294967296) : zz22 big p = some (tv (Good p ∧ Lat p.1.length (leP p)), ()) := by
  unfold zz22 zz22_s
  rw [specPoset_eq p hx, Option.bind_some]
  by_cases hg : Good p
  · rw [tv_t hg]
    have e : (Good p ∧ Lat p.1.length (leP p)) ↔ Lat p.1.length (leP p) := ⟨fun h => h.2, fun h => ⟨hg, h⟩⟩
    rw [tv_congr e, Bool.not_true, cond_false]
    have hf := hg.form
    have ho := hg.ord
    have h10 := hg.len
    clear e hg hx
    generalize p.1.length = n at *
    generalize leP p = le at *
    subst hf
    by_cases h0 : n = 0
    · rw [cdt (by omega), tv_f fun h => by have := h.ne; omega]
    · rw [cdf (by omega), specDual_pos (by omega), Option.bind_some]
      have key : ∀ x y, x < n → y < n → (0 ≤ bnd n le [x, y] ↔ 0 ≤ bnd n le [y, x]) := fun x y _ _ => by rw [bnd_swap]
      refine zz22_h5 n (fun i => ∀ x, x < i → ∀ y, y < x → 0 ≤ bnd n le [x, y] ∧ 0 ≤ bnd n (du le) [x, y]) (by omega) ?_ ?_ 0 (by omega) (by intro x hx; omega)
      · intro rc i hi hv ih
        unfold zz22_b5
        rw [pos_len, cdt (by omega)]
        refine zz22_h8 i (fun j => ∀ y, y < j → 0 ≤ bnd n le [i, y] ∧ 0 ≤ bnd n (du le) [i, y]) (by omega) ?_ ?_ 0 (by omega) (by intro x hx; omega)
        · intro rc2 j hj hv2 ih2
          unfold zz22_b8
          have e : ([(i : Int), (j : Int)] : List Int) = cs [i, j] := rfl
          have hS : ∀ s ∈ [i, j], s < n := by intro s hs; simp at hs; omega
          rw [cdt (by omega), e, specBound_pos (by omega) hS (by simp), Option.bind_some, specBound_pos (le := du le) (by omega) hS (by simp), Option.bind_some]
          by_cases h1 : 0 ≤ bnd n le [i, j]
          · rw [cdf (by omega)]
            by_cases h2 : 0 ≤ bnd n (du le) [i, j]
            · rw [cdf (by omega), wr1 (by omega)]
              exact ih2 (all_lt_succ.2 ⟨hv2, h1, h2⟩)
            · rw [cdt (by omega), tv_f fun h => h2 (h.join i j hi (by omega))]
          · rw [cdt (by omega), tv_f fun h => h1 (h.meet i j hi (by omega))]
        · intro rc2 hv2
          unfold zz22_b8
          rw [cdf (by omega), zz22_a8, wr1 (by omega)]
          exact ih (all_lt_succ.2 ⟨hv, hv2⟩)
      · intro rc hv
        unfold zz22_b5
        rw [pos_len, cdf (by omega), zz22_a5, tv_t]
        refine ⟨by omega, fun x y hx hy => ?_, fun x y hx hy => ?_⟩
        · rcases Nat.lt_trichotomy x y with h | h | h
          · rw [bnd_swap]; exact (hv y hy x h).1
          · subst h; rw [bnd_self ho hx]; omega
          · exact (hv x hx y h).1
        · rcases Nat.lt_trichotomy x y with h | h | h
          · rw [bnd_swap]; exact (hv y hy x h).2
          · subst h; rw [bnd_self ho.du hx]; omega
          · exact (hv x hx y h).2
  · rw [tv_f hg, tv_f fun h => hg h.1]
    rfl

theorem lat_cases {p : PT} (hx : ∀ r ∈ p.1, r.length ≤ 4294967296) : (∃ n le, p = pos n le ∧ LatP n le ∧ zz22 big p = some (true, ()) ∧ zz53 p = some ((some (lat n le), true, ()), ())) ∨
    (zz22 big p = some (false, ()) ∧ ∃ l, zz53 p = some ((l, false, ()), ())) := by
  by_cases h : Good p ∧ Lat p.1.length (leP p)
  · have hl : LatP p.1.length (leP p) := ⟨h.1.len, h.1.ord, h.2⟩
    refine .inl ⟨p.1.length, leP p, h.1.form, hl, by rw [spec24_eq p hx, tv_t h], ?_⟩
    have := latticeOf_pos hl
    rw [← h.1.form] at this
    exact this
  · exact .inr ⟨by rw [spec24_eq p hx, tv_f h], latticeOf_no hx h⟩

theorem those_lattice_isComplemented_c1 {n : Nat} {o : List (List Bool)} (ho : o.length = n) (hn : n ≤ 1048576) {c : ((Option ((List (List Bool)) × ((List (List Int)) × ((List (List Int)) × Unit)))) × Unit)} {P : Nat → Bool} (h : ∀ i, i < n → zz62 (i : Int) c.1 = some (P i, ())) : zz63 big o c = some (cs (fl n P), ()) := by
  unfold zz63 zz63_s
  rw [ho]
  refine zz63_h3 n (fun i l => l = cs (fl i P)) (by omega) ?_ ?_ 0 (by omega) _ rfl
  · intro rc i l hi hv ih
    have hl := fl_len i P
    unfold zz63_b3
    rw [cdt (by omega), h i hi, Option.bind_some, wr1 (by omega)]
    cases hp : P i with
    | true => rw [cond_true, app1 (by rw [hv, cs_len]; omega), Option.bind_some]; exact ih _ (by rw [hv]; exact fl_t hp)
    | false => exact ih _ (by rw [hv]; exact fl_f hp)
  · intro rc l hv
    unfold zz63_b3
    rw [cdf (by omega), zz63_a3, hv]

theorem those_lattice_relative_c1 {n : Nat} {o : List (List Bool)} (ho : o.length = n) (hn : n ≤ 1048576) {c : ((Option ((List (List Bool)) × ((List (List Int)) × ((List (List Int)) × Unit)))) × (Int × (Int × (Int × Unit))))} {P : Nat → Bool} (h : ∀ i, i < n → zz58 (i : Int) c.1 c.2.1 c.2.2.1 c.2.2.2.1 = some (P i, ())) : zz59 big o c = some (cs (fl n P), ()) := by
  unfold zz59 zz59_s
  rw [ho]
  refine zz59_h3 n (fun i l => l = cs (fl i P)) (by omega) ?_ ?_ 0 (by omega) _ rfl
  · intro rc i l hi hv ih
    have hl := fl_len i P
    unfold zz59_b3
    rw [cdt (by omega), h i hi, Option.bind_some, wr1 (by omega)]
    cases hp : P i with
    | true => rw [cond_true, app1 (by rw [hv, cs_len]; omega), Option.bind_some]; exact ih _ (by rw [hv]; exact fl_t hp)
    | false => exact ih _ (by rw [hv]; exact fl_f hp)
  · intro rc l hv
    unfold zz59_b3
    rw [cdf (by omega), zz59_a3, hv]

theorem szIntS_eq (a : List Int) (l : Int) (h : a.length ≤ 9223372036854775807) (h0 : 0 ≤ l) (h1 : l ≤ 1048576) : ∃ v, zz0 a l = some (v, ()) ∧ v ≤ 1048576 ∧ (0 ≤ v → a.length ≤ 1048576) := by
  unfold zz0 zz0_s
  rw [wr (by omega) (by omega)]
  by_cases hl : l - (a.length : Int) < 0
  · rw [cdt hl]
    exact ⟨_, rfl, by omega, by omega⟩
  · rw [cdf hl]
    exact ⟨_, rfl, by omega, by omega⟩

def SmallP (p : PT) : Prop := p.1.length ≤ 1048576 ∧ ∀ r ∈ p.1, r.length ≤ 1048576

theorem eqPoset_eq {p q : PT} (h : SmallP p) : zz75 p q = some (decide (p = q), ()) := by
  unfold zz75 zz75_s
  have := h.1
  rw [eqIntSS_eq p.1 q.1 (by omega) fun x hx => by have := h.2 x hx; omega]
  rw [Option.bind_some]
  by_cases e : p = q
  · subst e; simp
  · rw [decide_eq_false e, decide_eq_false fun h => e (Prod.ext h rfl)]; rfl

theorem SmallP.rows {p : PT} (h : SmallP p) : ∀ r ∈ p.1, r.length ≤ 4294967296 := fun r hr => by have := h.2 r hr; omega

theorem LatP.du {n : Nat} {le : Nat → Nat → Bool} (h : LatP n le) : LatP n (du le) := ⟨h.le10, Ord.du h.ord, h.lat.ne, h.lat.join, h.lat.meet⟩

theorem LatP.glb {n : Nat} {le : Nat → Nat → Bool} (h : LatP n le) {x y : Nat} (hx : x < n) (hy : y < n) : IsGlb n le [x, y] (mt n le x y) := glb_of_bnd (h.lat.meet x y hx hy)

theorem LatP.bnd2 {n : Nat} {le : Nat → Nat → Bool} (h : LatP n le) {x y : Nat} (hx : x < n) (hy : y < n) : bnd n le [x, y] = ((mt n le x y : Nat) : Int) := by
  have := h.lat.meet x y hx hy
  unfold mt; omega

theorem LatP.mlt {n : Nat} {le : Nat → Nat → Bool} (h : LatP n le) {x y : Nat} (hx : x < n) (hy : y < n) : mt n le x y < n := (h.glb hx hy).lt

theorem LatP.m1 {n : Nat} {le : Nat → Nat → Bool} (h : LatP n le) {x y : Nat} (hx : x < n) (hy : y < n) : le (mt n le x y) x = true := (h.glb hx hy).lo x (by simp)

theorem LatP.m2 {n : Nat} {le : Nat → Nat → Bool} (h : LatP n le) {x y : Nat} (hx : x < n) (hy : y < n) : le (mt n le x y) y = true := (h.glb hx hy).lo y (by simp)

theorem LatP.mg {n : Nat} {le : Nat → Nat → Bool} (h : LatP n le) {x y z : Nat} (hx : x < n) (hy : y < n) (hz : z < n) (h1 : le z x = true) (h2 : le z y = true) : le z (mt n le x y) = true :=
  (h.glb hx hy).gr z hz (by simp [h1, h2])

theorem LatP.tr {n : Nat} {le : Nat → Nat → Bool} (h : LatP n le) {x y z : Nat} (hx : x < n) (hy : y < n) (hz : z < n) (h1 : le x y = true) (h2 : le y z = true) : le x z = true := h.ord.trans x y z hx hy hz h1 h2

theorem mt_comm {n : Nat} {le : Nat → Nat → Bool} (x y : Nat) : mt n le x y = mt n le y x := by unfold mt; rw [bnd_swap]

theorem topEx {n : Nat} {le : Nat → Nat → Bool} (h : LatP n le) : ∃ t, IsGlb n le [] t := by
  have key : ∀ i, i ≤ n → ∃ t, t < n ∧ ∀ x, x < i → le x t = true := by
    intro i
    induction i with
    | zero => exact fun _ => ⟨0, h.lat.ne, by intro x hx; omega⟩
    | succ i ih =>
      intro hi
      obtain ⟨t, ht, h1⟩ := ih (by omega)
      have hin : i < n := by omega
      refine ⟨mt n (Ytiklgbjlggcejaa.du le) t i, h.du.mlt ht hin, all_lt_succ.2 ⟨fun x hx => ?_, h.du.m2 ht hin⟩⟩
      exact h.tr (by omega) ht (h.du.mlt ht hin) (h1 x hx) (h.du.m1 ht hin)
  obtain ⟨t, ht, h1⟩ := key n (by omega)
  exact ⟨t, ht, by simp, fun z hz _ => h1 z hz⟩

theorem glbEx {n : Nat} {le : Nat → Nat → Bool} (h : LatP n le) : ∀ S : List Nat, (∀ s ∈ S, s < n) → ∃ m, IsGlb n le S m
  | [], _ => topEx h
  | s :: S, hS => by
    obtain ⟨m, hm⟩ := glbEx h S fun x hx => hS x (by simp [hx])
    have hs := hS s (by simp)
    refine ⟨mt n le s m, h.mlt hs hm.lt, fun x hx => ?_, fun z hz hx => ?_⟩
    · rcases List.mem_cons.1 hx with rfl | hx'
      · exact h.m1 hs hm.lt
      · exact h.tr (h.mlt hs hm.lt) hm.lt (hS x hx) (h.m2 hs hm.lt) (hm.lo x hx')
    · exact h.mg hs hm.lt hz (hx s (by simp)) (hm.gr z hz fun x hx' => hx x (by simp [hx']))

theorem LatP.gbs {n : Nat} {le : Nat → Nat → Bool} (h : LatP n le) {S : List Nat} (hS : ∀ s ∈ S, s < n) : IsGlb n le S (gb n le S) := by
  obtain ⟨m, hm⟩ := glbEx h S hS
  unfold gb
  rw [bnd_of_glb h.ord hm]
  exact hm

theorem LatP.bnds {n : Nat} {le : Nat → Nat → Bool} (h : LatP n le) {S : List Nat} (hS : ∀ s ∈ S, s < n) : bnd n le S = ((gb n le S : Nat) : Int) := bnd_of_glb h.ord (h.gbs hS)

theorem gb_eq {n : Nat} {le : Nat → Nat → Bool} (h : LatP n le) {S : List Nat} {m : Nat} (hm : IsGlb n le S m) : gb n le S = m := by
  unfold gb; rw [bnd_of_glb h.ord hm]; rfl

theorem noneLt {n : Nat} : ∀ s ∈ ([] : List Nat), s < n := fun s hs => by cases hs

theorem lat1 (n : Nat) (le : Nat → Nat → Bool) : (lat n le).1 = mkT n le := rfl

theorem lat2 (n : Nat) (le : Nat → Nat → Bool) : (lat n le).2.1 = mkT n fun x y => ((mt n le x y : Nat) : Int) := rfl

theorem lat3 (n : Nat) (le : Nat → Nat → Bool) : (lat n le).2.2.1 = mkT n fun x y => ((mt n (du le) x y : Nat) : Int) := rfl

theorem l24Meet_eq {n : Nat} {le : Nat → Nat → Bool} (h : LatP n le) {x y : Nat} (hx : x < n) (hy : y < n) : zz24 (pos n le) (x : Int) (y : Int) = some (((mt n le x y : Nat) : Int), ()) := by
  have := h.le10
  unfold zz24 zz24_s
  rw [show ([(x : Int), (y : Int)] : List Int) = cs [x, y] from rfl, specBound_pos (by omega) (by simp [hx, hy]) (by simp), Option.bind_some, h.bnd2 hx hy]

theorem l24Join_eq {n : Nat} {le : Nat → Nat → Bool} (h : LatP n le) {x y : Nat} (hx : x < n) (hy : y < n) : zz23 (pos n le) (x : Int) (y : Int) = some (((mt n (du le) x y : Nat) : Int), ()) := by
  have := h.le10
  unfold zz23 zz23_s
  rw [specDual_pos (by omega), Option.bind_some, show ([(x : Int), (y : Int)] : List Int) = cs [x, y] from rfl, specBound_pos (by omega) (by simp [hx, hy]) (by simp), Option.bind_some, h.du.bnd2 hx hy]

theorem specBoundL {n : Nat} {le : Nat → Nat → Bool} (h : LatP n le) {S : List Nat} (hS : ∀ s ∈ S, s < n) (hl : S.length ≤ 4294967296) : zz21 big (pos n le) (cs S) = some (((gb n le S : Nat) : Int), ()) := by
  have := h.le10
  rw [specBound_pos (by omega) hS hl, h.bnds hS]

theorem specTop_eq {n : Nat} {le : Nat → Nat → Bool} (h : LatP n le) : zz28 (pos n le) = some (((gb n le [] : Nat) : Int), ()) := by
  unfold zz28 zz28_s
  rw [show ([] : List Int) = cs [] from rfl, specBoundL h noneLt (by simp)]; rfl

theorem specBottom_eq {n : Nat} {le : Nat → Nat → Bool} (h : LatP n le) : zz27 (pos n le) = some (((gb n (du le) [] : Nat) : Int), ()) := by
  have := h.le10
  unfold zz27 zz27_s
  rw [specDual_pos (by omega), Option.bind_some, show ([] : List Int) = cs [] from rfl, specBoundL h.du noneLt (by simp)]; rfl

theorem top_eq {n : Nat} {le : Nat → Nat → Bool} (h : LatP n le) : zz57 big (some (lat n le)) = some (((gb n le [] : Nat) : Int), ()) := by
  have h10 := h.le10
  unfold zz57 zz57_s
  rw [Option.bind_some, lat1, mkR_len]
  refine zz57_h3 n (fun i t => ∃ k : Nat, t = (k : Int) ∧ k < n ∧ ∀ x, x < i → le x k = true) (by omega) ?_ ?_ 0 (by omega) _ ⟨0, rfl, h.lat.ne, by intro x hx; omega⟩
  · intro rc i t hi hv ih
    obtain ⟨k, e, hk, h1⟩ := hv
    subst e
    unfold zz57_b3
    rw [cdt (by omega), Option.bind_some, lat3, atI_mkR hk, Option.bind_some, atI_mkR hi, Option.bind_some, wr1 (by omega)]
    refine ih _ ⟨mt n (Ytiklgbjlggcejaa.du le) k i, rfl, h.du.mlt hk hi, all_lt_succ.2 ⟨fun x hx => ?_, h.du.m2 hk hi⟩⟩
    exact h.tr (by omega) hk (h.du.mlt hk hi) (h1 x hx) (h.du.m1 hk hi)
  · intro rc t hv
    obtain ⟨k, e, hk, h1⟩ := hv
    subst e
    unfold zz57_b3
    rw [cdf (by omega), zz57_a3, gb_eq h ⟨hk, by simp, fun z hz _ => h1 z hz⟩]

theorem bottom_eq {n : Nat} {le : Nat → Nat → Bool} (h : LatP n le) : zz56 big (some (lat n le)) = some (((gb n (du le) [] : Nat) : Int), ()) := by
  have h10 := h.le10
  unfold zz56 zz56_s
  rw [Option.bind_some, lat1, mkR_len]
  refine zz56_h3 n (fun i t => ∃ k : Nat, t = (k : Int) ∧ k < n ∧ ∀ x, x < i → le k x = true) (by omega) ?_ ?_ 0 (by omega) _ ⟨0, rfl, h.lat.ne, by intro x hx; omega⟩
  · intro rc i t hi hv ih
    obtain ⟨k, e, hk, h1⟩ := hv
    subst e
    unfold zz56_b3
    rw [cdt (by omega), Option.bind_some, lat2, atI_mkR hk, Option.bind_some, atI_mkR hi, Option.bind_some, wr1 (by omega)]
    refine ih _ ⟨mt n le k i, rfl, h.mlt hk hi, all_lt_succ.2 ⟨fun x hx => ?_, h.m2 hk hi⟩⟩
    exact h.tr (h.mlt hk hi) hk (by omega) (h.m1 hk hi) (h1 x hx)
  · intro rc t hv
    obtain ⟨k, e, hk, h1⟩ := hv
    subst e
    unfold zz56_b3
    rw [cdf (by omega), zz56_a3, gb_eq h.du ⟨hk, by simp, fun z hz _ => h1 z hz⟩]

theorem sameList_eq (a b : List Int) (h : a.length ≤ 4294967296) : zz41 big a b = some (decide (a = b), ()) := by
  unfold zz41 zz41_s
  by_cases hl : a.length = b.length
  · rw [cdf (by omega)]
    refine zz41_h4 a.length (fun i => a.take i = b.take i) (by omega) ?_ ?_ 0 (by omega) rfl
    · intro rc i hi hv ih
      have hi2 : i < b.length := by omega
      unfold zz41_b4
      rw [cdt (by omega), atI_lt a i hi, Option.bind_some, atI_lt b i hi2, Option.bind_some, wr1 (by omega)]
      by_cases e : b[i] = a[i]
      · rw [cdf (by omega)]
        exact ih (by rw [List.take_succ_eq_append_getElem hi, List.take_succ_eq_append_getElem hi2, hv, e])
      · rw [cdt e, decide_eq_false fun h => by subst h; exact e rfl]
    · intro rc hv
      rw [List.take_length, hl, List.take_length] at hv
      unfold zz41_b4
      rw [cdf (by omega), zz41_a4, decide_eq_true hv]
  · rw [cdt (by omega), decide_eq_false fun h => hl (by rw [h])]

abbrev bt (n : Nat) (le : Nat → Nat → Bool) : Nat := gb n (du le) []

abbrev tp (n : Nat) (le : Nat → Nat → Bool) : Nat := gb n le []

def Dis (n : Nat) (le : Nat → Nat → Bool) : Prop := ∀ x y z, x < n → y < n → z < n → mt n le x (mt n (du le) y z) = mt n (du le) (mt n le x y) (mt n le x z)

theorem jlt {n : Nat} {le : Nat → Nat → Bool} (h : LatP n le) {x y : Nat} (hx : x < n) (hy : y < n) : mt n (du le) x y < n := h.du.mlt hx hy

theorem uneven_eq {n : Nat} {le : Nat → Nat → Bool} (h : LatP n le) : ∃ U, zz54 big (some (lat n le)) = some (U, ()) ∧ U.isNone = tv (Dis n le) := by
  have h10 := h.le10
  unfold zz54 zz54_s
  rw [Option.bind_some, lat1, mkR_len]
  refine zz54_q2 (Q := fun o => ∃ U, o = some (U, ()) ∧ U.isNone = tv (Dis n le)) n (fun i => ∀ x, x < i → ∀ y, y < n → ∀ z, z < n → mt n le x (mt n (du le) y z) = mt n (du le) (mt n le x y) (mt n le x z)) (by omega) ?_ ?_ 0 (by omega) (by intro x hx; omega)
  · intro rc i hi hv ih
    unfold zz54_b2
    rw [cdt (by omega), Option.bind_some, lat1, mkR_len]
    refine zz54_q5 (Q := fun o => ∃ U, o = some (U, ()) ∧ U.isNone = tv (Dis n le)) n (fun j => ∀ y, y < j → ∀ z, z < n → mt n le i (mt n (du le) y z) = mt n (du le) (mt n le i y) (mt n le i z)) (by omega) ?_ ?_ 0 (by omega) (by intro x hx; omega)
    · intro rc2 j hj hv2 ih2
      unfold zz54_b5
      rw [cdt (by omega), Option.bind_some, lat1, mkR_len]
      refine zz54_q8 (Q := fun o => ∃ U, o = some (U, ()) ∧ U.isNone = tv (Dis n le)) n (fun k => ∀ z, z < k → mt n le i (mt n (du le) j z) = mt n (du le) (mt n le i j) (mt n le i z)) (by omega) ?_ ?_ 0 (by omega) (by intro x hx; omega)
      · intro rc3 k hk hv3 ih3
        unfold zz54_b8
        simp only [cdt (show (k : Int) < (n : Int) by omega), Option.bind_some, lat2, lat3, atI_mkR hi, atI_mkR hj, atI_mkR hk, atI_mkR (jlt h hj hk), atI_mkR (h.mlt hi hj), atI_mkR (h.mlt hi hk), wr1 (show k ≤ 4611686018427387904 by omega)]
        by_cases e : mt n le i (mt n (du le) j k) = mt n (du le) (mt n le i j) (mt n le i k)
        · rw [cdf (by omega)]
          exact ih3 (all_lt_succ.2 ⟨hv3, e⟩)
        · rw [cdt (by omega)]
          exact ⟨_, rfl, by rw [tv_f fun hd => e (hd i j k hi hj hk)]; rfl⟩
      · intro rc3 hv3
        unfold zz54_b8
        rw [cdf (by omega), zz54_a8, wr1 (by omega)]
        exact ih2 (all_lt_succ.2 ⟨hv2, hv3⟩)
    · intro rc2 hv2
      unfold zz54_b5
      rw [cdf (by omega), zz54_a5, wr1 (by omega)]
      exact ih (all_lt_succ.2 ⟨hv, hv2⟩)
  · intro rc hv
    unfold zz54_b2
    rw [cdf (by omega), zz54_a2]
    exact ⟨none, rfl, by rw [tv_t (P := Dis n le) fun x y z hx hy hz => hv x hx y hy z hz]; rfl⟩

theorem apart_eq {n : Nat} {le : Nat → Nat → Bool} (h : LatP n le) : ∃ l b, zz25 big (pos n le) = some ((l, b, ()), ()) ∧ (!b) = tv (Dis n le) := by
  have h10 := h.le10
  unfold zz25 zz25_s
  rw [pos_len]
  refine zz25_q3 (Q := fun o => ∃ l b, o = some ((l, b, ()), ()) ∧ (!b) = tv (Dis n le)) n (fun i => ∀ x, x < i → ∀ y, y < n → ∀ z, z < n → mt n le x (mt n (du le) y z) = mt n (du le) (mt n le x y) (mt n le x z)) (by omega) ?_ ?_ 0 (by omega) (by intro x hx; omega)
  · intro rc i hi hv ih
    unfold zz25_b3
    rw [cdt (by omega)]
    refine zz25_q6 (Q := fun o => ∃ l b, o = some ((l, b, ()), ()) ∧ (!b) = tv (Dis n le)) n (fun j => ∀ y, y < j → ∀ z, z < n → mt n le i (mt n (du le) y z) = mt n (du le) (mt n le i y) (mt n le i z)) (by omega) ?_ ?_ 0 (by omega) (by intro x hx; omega)
    · intro rc2 j hj hv2 ih2
      unfold zz25_b6
      rw [cdt (by omega)]
      refine zz25_q9 (Q := fun o => ∃ l b, o = some ((l, b, ()), ()) ∧ (!b) = tv (Dis n le)) n (fun k => ∀ z, z < k → mt n le i (mt n (du le) j z) = mt n (du le) (mt n le i j) (mt n le i z)) (by omega) ?_ ?_ 0 (by omega) (by intro x hx; omega)
      · intro rc3 k hk hv3 ih3
        unfold zz25_b9
        simp only [cdt (show (k : Int) < (n : Int) by omega), l24Join_eq h hj hk, Option.bind_some, l24Meet_eq h hi (jlt h hj hk), l24Meet_eq h hi hj, l24Meet_eq h hi hk, l24Join_eq h (h.mlt hi hj) (h.mlt hi hk), wr1 (show k ≤ 4611686018427387904 by omega)]
        by_cases e : mt n le i (mt n (du le) j k) = mt n (du le) (mt n le i j) (mt n le i k)
        · rw [cdf (by omega)]
          exact ih3 (all_lt_succ.2 ⟨hv3, e⟩)
        · rw [cdt (by omega)]
          exact ⟨_, _, rfl, by rw [tv_f fun hd => e (hd i j k hi hj hk)]; rfl⟩
      · intro rc3 hv3
        unfold zz25_b9
        rw [cdf (by omega), zz25_a9, wr1 (by omega)]
        exact ih2 (all_lt_succ.2 ⟨hv2, hv3⟩)
    · intro rc2 hv2
      unfold zz25_b6
      rw [cdf (by omega), zz25_a6, wr1 (by omega)]
      exact ih (all_lt_succ.2 ⟨hv, hv2⟩)
  · intro rc hv
    unfold zz25_b3
    rw [cdf (by omega), zz25_a3]
    exact ⟨[], false, rfl, by rw [tv_t (P := Dis n le) fun x y z hx hy hz => hv x hx y hy z hz]; rfl⟩

def rel (n : Nat) (le : Nat → Nat → Bool) (x y z : Nat) : List Nat := fl n fun c => decide (mt n le c y = x) && decide (mt n (du le) c y = z)

def comp (n : Nat) (le : Nat → Nat → Bool) (x : Nat) : List Nat := rel n le (bt n le) x (tp n le)

theorem relative_eq {n : Nat} {le : Nat → Nat → Bool} (h : LatP n le) {x y z : Nat} (hy : y < n) : zz60 (some (lat n le)) (x : Int) (y : Int) (z : Int) = some (cs (rel n le x y z), ()) := by
  have h10 := h.le10
  unfold zz60 zz60_s
  rw [Option.bind_some, lat1, those_lattice_relative_c1 (mkR_len n _) (by omega) (P := fun c => decide (mt n le c y = x) && decide (mt n (du le) c y = z))]
  · rfl
  · intro i hi
    unfold zz58 zz58_s
    simp only [Option.bind_some, lat2, lat3, atI_mkR hi, atI_mkR hy]
    by_cases e : mt n le i y = x
    · rw [cdt (by omega), decide_eq_true e, Bool.true_and]
      congr 2
      exact decide_eq_decide.2 (by omega)
    · rw [cdf (by omega), decide_eq_false e, Bool.false_and]

theorem specRel_eq {n : Nat} {le : Nat → Nat → Bool} (h : LatP n le) {x y z : Nat} (hy : y < n) : zz29 big (pos n le) (x : Int) (y : Int) (z : Int) = some (cs (rel n le x y z), ()) := by
  have h10 := h.le10
  unfold zz29 zz29_s
  refine zz29_h3 n (fun i l => l = cs (fl i fun c => decide (mt n le c y = x) && decide (mt n (du le) c y = z))) (by omega) ?_ ?_ 0 (by omega) _ rfl
  · intro rc i l hi hv ih
    have hl := fl_len i fun c => decide (mt n le c y = x) && decide (mt n (du le) c y = z)
    unfold zz29_b3
    rw [pos_len, cdt (by omega), l24Meet_eq h hy hi, Option.bind_some, l24Join_eq h hy hi, Option.bind_some, mt_comm, mt_comm (le := du le), wr1 (by omega)]
    by_cases e : mt n le i y = x
    · rw [cdt (by omega)]
      by_cases e2 : mt n (du le) i y = z
      · rw [cdt (by omega), app1 (by rw [hv, cs_len]; omega), Option.bind_some]
        exact ih _ (by rw [hv]; exact fl_t (P := fun c => decide (mt n le c y = x) && decide (mt n (du le) c y = z)) (by simp [e, e2]))
      · rw [cdf (by omega)]
        exact ih _ (by rw [hv]; exact fl_f (P := fun c => decide (mt n le c y = x) && decide (mt n (du le) c y = z)) (by simp [e2]))
    · rw [cdf (by omega)]
      exact ih _ (by rw [hv]; exact fl_f (P := fun c => decide (mt n le c y = x) && decide (mt n (du le) c y = z)) (by simp [e]))
  · intro rc l hv
    unfold zz29_b3
    rw [pos_len, cdf (by omega), zz29_a3, hv]
    rfl

theorem complements_eq {n : Nat} {le : Nat → Nat → Bool} (h : LatP n le) {x : Nat} (hx : x < n) : zz61 (some (lat n le)) (x : Int) = some (cs (comp n le x), ()) := by
  unfold zz61 zz61_s
  rw [bottom_eq h, Option.bind_some, top_eq h, Option.bind_some, relative_eq h hx]; rfl

def Cmp (n : Nat) (le : Nat → Nat → Bool) : Prop := ∀ x, x < n → comp n le x ≠ []

theorem isCompl_eq {n : Nat} {le : Nat → Nat → Bool} (h : LatP n le) : zz65 (some (lat n le)) = some (tv (Cmp n le), ()) := by
  have h10 := h.le10
  unfold zz65 zz65_s zz64 zz64_s
  rw [Option.bind_some, lat1, those_lattice_isComplemented_c1 (mkR_len n _) (by omega) (P := fun x => decide ((comp n le x).length = 0))]
  · simp only [Option.bind_some, cs_len]
    congr 2
    symm
    refine tv_eq ?_
    rw [decide_eq_true_eq]
    constructor
    · intro e x hx hc
      have : x ∈ fl n fun x => decide ((comp n le x).length = 0) := fl_mem.2 ⟨hx, by simp [hc]⟩
      have := List.length_pos_of_mem this
      omega
    · intro hc
      have : (fl n fun x => decide ((comp n le x).length = 0)) = [] := List.eq_nil_iff_forall_not_mem.2 fun x hx => by
        have := fl_mem.1 hx
        exact hc x this.1 (List.eq_nil_of_length_eq_zero (by simpa using this.2))
      rw [this]; rfl
  · intro i hi
    unfold zz62 zz62_s
    rw [complements_eq h hi, Option.bind_some, cs_len]
    congr 2
    exact decide_eq_decide.2 (by omega)

theorem counts_eq {n : Nat} {le : Nat → Nat → Bool} (h : LatP n le) : zz30 big (pos n le) = some (mkR n fun x => ((comp n le x).length : Int), ()) := by
  have h10 := h.le10
  unfold zz30 zz30_s
  refine zz30_h3 n (fun i l => l = mkR i fun x => ((comp n le x).length : Int)) (by omega) ?_ ?_ 0 (by omega) _ rfl
  · intro rc i l hi hv ih
    unfold zz30_b3
    rw [pos_len, cdt (by omega), specBottom_eq h, Option.bind_some, specTop_eq h, Option.bind_some, specRel_eq h hi, Option.bind_some, app1 (by rw [hv, mkR_len]; omega), Option.bind_some, wr1 (by omega)]
    exact ih _ (by rw [hv, cs_len]; exact (mkR_succ i fun x => ((comp n le x).length : Int)).symm)
  · intro rc l hv
    unfold zz30_b3
    rw [pos_len, cdf (by omega), zz30_a3, hv]

structure BoolP (n : Nat) (le : Nat → Nat → Bool) : Prop where
  lp : LatP n le
  dis : Dis n le
  cmp : Cmp n le

theorem specGood29 {n : Nat} {le : Nat → Nat → Bool} (h : LatP n le) (hg : zz22 big (pos n le) = some (true, ())) : zz31 (pos n le) = some (tv (Dis n le ∧ Cmp n le), ()) := by
  have h10 := h.le10
  unfold zz31 zz31_s zz26 zz26_s
  obtain ⟨l, b, h1, h2⟩ := apart_eq h
  rw [hg, Option.bind_some, h1]
  simp only [Bool.not_true, cond_false, Option.bind_some, h2]
  by_cases hd : Dis n le
  · rw [tv_t hd, cond_true, counts_eq h, Option.bind_some, l1Has_eq _ _ (by rw [mkR_len]; omega), Option.bind_some]
    congr 2
    symm
    refine tv_eq ?_
    rw [Bool.not_eq_true', decide_eq_false_iff_not, mkR_mem]
    constructor
    · intro hc
      refine ⟨hd, fun x hx he => hc ⟨x, hx, by rw [he]; rfl⟩⟩
    · rintro ⟨_, hc⟩ ⟨x, hx, e⟩
      exact hc x hx (List.eq_nil_of_length_eq_zero (by omega))
  · rw [tv_f hd, tv_f fun hh => hd hh.1]; rfl

theorem implBool {n : Nat} {le : Nat → Nat → Bool} (h : LatP n le) (hg : zz53 (pos n le) = some ((some (lat n le), true, ()), ())) : zz66 (pos n le) = some ((some (lat n le), tv (Dis n le ∧ Cmp n le), ()), ()) := by
  unfold zz66 zz66_s zz55 zz55_s
  obtain ⟨U, h1, h2⟩ := uneven_eq h
  rw [hg, Option.bind_some]
  simp only [cond_true, h1, Option.bind_some, h2]
  by_cases hd : Dis n le
  · rw [tv_t hd, cond_true, isCompl_eq h, Option.bind_some, tv_congr (show Cmp n le ↔ Dis n le ∧ Cmp n le from ⟨fun hc => ⟨hd, hc⟩, fun hh => hh.2⟩)]
  · rw [tv_f hd, tv_f fun hh => hd hh.1]; rfl

theorem bool_cases {p : PT} (hx : ∀ r ∈ p.1, r.length ≤ 4294967296) : (∃ n le, p = pos n le ∧ BoolP n le ∧ zz31 p = some (true, ()) ∧ zz66 p = some ((some (lat n le), true, ()), ())) ∨
    (zz31 p = some (false, ()) ∧ ∃ l, zz66 p = some ((l, false, ()), ())) := by
  rcases lat_cases hx with ⟨n, le, e, h, h1, h2⟩ | ⟨h1, l, h2⟩
  · subst e
    have e1 := specGood29 h h1
    have e2 := implBool h h2
    by_cases hb : Dis n le ∧ Cmp n le
    · rw [tv_t hb] at e1 e2
      exact .inl ⟨n, le, rfl, ⟨h, hb.1, hb.2⟩, e1, e2⟩
    · rw [tv_f hb] at e1 e2
      exact .inr ⟨e1, _, e2⟩
  · refine .inr ⟨?_, l, ?_⟩
    · unfold zz31 zz31_s zz26 zz26_s
      rw [h1]; rfl
    · unfold zz66 zz66_s zz55 zz55_s
      rw [h2]; rfl

def cpl (n : Nat) (le : Nat → Nat → Bool) (x : Nat) : Nat := (comp n le x).headD 0

theorem cpl_get {n : Nat} {le : Nat → Nat → Bool} (hc : Cmp n le) {x : Nat} (hx : x < n) : ∃ h : 0 < (comp n le x).length, (comp n le x)[0] = cpl n le x := by
  have h0 : 0 < (comp n le x).length := List.length_pos_iff.2 (hc x hx)
  refine ⟨h0, ?_⟩
  unfold cpl
  rw [List.getElem_zero, List.headD_eq_head?_getD, List.head?_eq_some_head (List.ne_nil_of_length_pos h0)]
  rfl

theorem cpl_spec {n : Nat} {le : Nat → Nat → Bool} (hc : Cmp n le) {x : Nat} (hx : x < n) : cpl n le x < n ∧ mt n le (cpl n le x) x = bt n le ∧ mt n (du le) (cpl n le x) x = tp n le := by
  obtain ⟨h0, e⟩ := cpl_get hc hx
  have := List.getElem_mem h0
  rw [e] at this
  have := fl_mem.1 this
  simpa using this

theorem complList_eq {n : Nat} {le : Nat → Nat → Bool} (h : BoolP n le) : zz67 big (some (lat n le)) = some (mkR n fun x => ((cpl n le x : Nat) : Int), ()) := by
  have h10 := h.lp.le10
  unfold zz67 zz67_s
  rw [Option.bind_some, lat1, mkR_len]
  refine zz67_h3 n (fun i l => l = mkR i fun x => ((cpl n le x : Nat) : Int)) (by omega) ?_ ?_ 0 (by omega) _ rfl
  · intro rc i l hi hv ih
    obtain ⟨h0, e⟩ := cpl_get h.cmp hi
    have a1 := atI_cs h0
    have a2 := get_cs h0
    rw [e] at a1 a2
    unfold zz67_b3
    rw [cdt (by omega), complements_eq h.lp hi, Option.bind_some, show (0 : Int) = ((0 : Nat) : Int) from rfl, a1, Option.bind_some, Int.toNat_natCast, a2, Option.bind_some, app1 (by rw [hv, mkR_len]; omega), Option.bind_some, wr1 (by omega)]
    exact ih _ (by rw [hv]; exact (mkR_succ i fun x => ((cpl n le x : Nat) : Int)).symm)
  · intro rc l hv
    unfold zz67_b3
    rw [cdf (by omega), zz67_a3, hv]

theorem specCompl_eq {n : Nat} {le : Nat → Nat → Bool} (h : BoolP n le) : zz32 big (pos n le) = some (mkR n fun x => ((cpl n le x : Nat) : Int), ()) := by
  have h10 := h.lp.le10
  unfold zz32 zz32_s
  refine zz32_h3 n (fun i l => l = mkR i fun x => ((cpl n le x : Nat) : Int)) (by omega) ?_ ?_ 0 (by omega) _ rfl
  · intro rc i l hi hv ih
    obtain ⟨h0, e⟩ := cpl_get h.cmp hi
    have a1 := atI_cs h0
    have a2 := get_cs h0
    rw [e] at a1 a2
    unfold zz32_b3
    rw [pos_len, cdt (by omega), specBottom_eq h.lp, Option.bind_some, specTop_eq h.lp, Option.bind_some, specRel_eq h.lp hi, Option.bind_some]
    simp only [show (0 : Int) = ((0 : Nat) : Int) from rfl]
    rw [show atI (cs (rel n le (bt n le) i (tp n le))) ((0 : Nat) : Int) = _ from a1, Option.bind_some, Int.toNat_natCast, show (cs (rel n le (bt n le) i (tp n le)))[0]? = _ from a2, Option.bind_some, app1 (by rw [hv, mkR_len]; omega), Option.bind_some, wr1 (by omega)]
    exact ih _ (by rw [hv]; exact (mkR_succ i fun x => ((cpl n le x : Nat) : Int)).symm)
  · intro rc l hv
    unfold zz32_b3
    rw [pos_len, cdf (by omega), zz32_a3, hv]

def bsum (n : Nat) (le : Nat → Nat → Bool) (x y : Nat) : Nat := mt n (du le) (mt n le x (cpl n le y)) (mt n le (cpl n le x) y)

theorem specSum_eq {n : Nat} {le : Nat → Nat → Bool} (h : BoolP n le) {x y : Nat} (hx : x < n) (hy : y < n) : zz33 (pos n le) (mkR n fun x => ((cpl n le x : Nat) : Int)) (x : Int) (y : Int) = some (((bsum n le x y : Nat) : Int), ()) := by
  have c1 := (cpl_spec h.cmp hx).1
  have c2 := (cpl_spec h.cmp hy).1
  unfold zz33 zz33_s
  simp only [atI_mkR hy, atI_mkR hx, Option.bind_some, l24Meet_eq h.lp hx c2, l24Meet_eq h.lp c1 hy, l24Join_eq h.lp (h.lp.mlt hx c2) (h.lp.mlt c1 hy)]
  rfl

theorem l1Same_eq (a b : List Int) (h : a.length ≤ 4294967296) : zz13 big a b = some (decide (a = b), ()) := by
  unfold zz13 zz13_s
  by_cases hl : a.length = b.length
  · rw [cdf (by omega)]
    refine zz13_h4 a.length (fun i => a.take i = b.take i) (by omega) ?_ ?_ 0 (by omega) rfl
    · intro rc i hi hv ih
      have hi2 : i < b.length := by omega
      unfold zz13_b4
      rw [cdt (by omega), atI_lt a i hi, Option.bind_some, atI_lt b i hi2, Option.bind_some, wr1 (by omega)]
      by_cases e : a[i] = b[i]
      · rw [cdf (by omega)]
        exact ih (by rw [List.take_succ_eq_append_getElem hi, List.take_succ_eq_append_getElem hi2, hv, e])
      · rw [cdt e, decide_eq_false fun h => by subst h; exact e rfl]
    · intro rc hv
      rw [List.take_length, hl, List.take_length] at hv
      unfold zz13_b4
      rw [cdf (by omega), zz13_a4, decide_eq_true hv]
  · rw [cdt (by omega), decide_eq_false fun h => hl (by rw [h])]

theorem sum_le {l : List (List Int)} {k : Nat} (h : ∀ x ∈ l, x.length ≤ k) : (l.map List.length).sum ≤ l.length * k := by
  induction l with
  | nil => simp
  | cons x l ih =>
    have h1 := ih fun y hy => h y (List.mem_cons_of_mem _ hy)
    have h2 := h x List.mem_cons_self
    rw [List.map_cons, List.sum_cons, List.length_cons, Nat.succ_mul]; omega

abbrev OpT := Int × List Int × Unit

abbrev AlT := Int × List OpT × Unit

def SmallA (a : AlT) : Prop := a.2.1.length ≤ 1048576 ∧ ∀ o ∈ a.2.1, o.2.1.length ≤ 1048576

theorem eqOp_self (a : OpT) (h : a.2.1.length ≤ 1048576) : zz76 a a = some (true, ()) := by
  unfold zz76 zz76_s
  rw [cdf (fun c => c rfl), eqIntS_eq a.2.1 a.2.1 (by omega), Option.bind_some]
  simp

theorem eqOpS_self (a : List OpT) (h : a.length ≤ 1048576) (hx : ∀ o ∈ a, o.2.1.length ≤ 1048576) : zz77 big a a = some (true, ()) := by
  unfold zz77 zz77_s
  rw [cdf (by omega)]
  refine zz77_h4 a.length (fun _ => True) (by omega) ?_ ?_ 0 (by omega) trivial
  · intro rc i hi _ ih
    unfold zz77_b4
    rw [cdt (by omega), atI_lt a i hi, Option.bind_some, Option.bind_some, eqOp_self _ (hx _ (List.getElem_mem hi)), Option.bind_some, wr1 (by omega)]
    exact ih trivial
  · intro rc _
    unfold zz77_b4
    rw [cdf (by omega), zz77_a4]

theorem eqAlg_self {a : AlT} (h : SmallA a) : zz78 a a = some (true, ()) := by
  unfold zz78 zz78_s
  rw [cdf (fun c => c rfl), eqOpS_self _ h.1 h.2, Option.bind_some]
  simp

def sumO (l : List Nat) : Nat := (l.map (· + 1)).sum

theorem sumO_snoc (l : List Nat) (n : Nat) : sumO (l ++ [n]) = sumO l + (n + 1) := by unfold sumO; simp

def marksO : Int → List Nat → List OpT
  | _, [] => []
  | k, n :: ns => (k, marks (k + 1) n, ()) :: marksO (k + 1 + n) ns

theorem marksO_len : ∀ (k : Int) (ns : List Nat), (marksO k ns).length = ns.length
  | _, [] => rfl
  | k, n :: ns => by simp [marksO, marksO_len _ ns]

theorem marksO_snoc : ∀ (k : Int) (l : List Nat) (n : Nat), marksO k (l ++ [n]) = marksO k l ++ [(k + (sumO l : Nat), marks (k + (sumO l : Nat) + 1) n, ())]
  | k, [], n => by simp [marksO, sumO]
  | k, m :: l, n => by
    have e : k + 1 + (m : Int) + ((sumO l : Nat) : Int) = k + ((sumO (m :: l) : Nat) : Int) := by unfold sumO; simp; omega
    rw [List.cons_append, marksO, marksO_snoc (k + 1 + m) l n, e]; rfl

theorem sumO_take (l : List Nat) {i : Nat} (h : i < l.length) : sumO (l.take (i + 1)) = sumO (l.take i) + (l[i] + 1) := by
  rw [List.take_succ_eq_append_getElem h, sumO_snoc]

theorem sumO_le (l : List Nat) (i : Nat) : sumO (l.take i) ≤ sumO l := by
  have : sumO l = sumO (l.take i) + sumO (l.drop i) := by
    unfold sumO
    rw [← List.sum_append, ← List.map_append, List.take_append_drop]
  omega

theorem sumO_bound {l : List Nat} {k : Nat} (h : ∀ n ∈ l, n ≤ k) : sumO l ≤ l.length * (k + 1) := by
  induction l with
  | nil => simp [sumO]
  | cons n l ih =>
    have h1 := ih fun m hm => h m (List.mem_cons_of_mem _ hm)
    have h2 := h n List.mem_cons_self
    unfold sumO at *
    rw [List.map_cons, List.sum_cons, List.length_cons, Nat.succ_mul]; omega

abbrev lensO (a : List OpT) : List Nat := a.map fun o => o.2.1.length

theorem get_mid {α : Type} {p q : List α} {o : α} {i : Nat} (h : p.length = i) : (p ++ o :: q)[i]? = some o := by
  rw [List.getElem?_append_right (by omega), h, Nat.sub_self]; rfl

theorem atI_mid {α : Type} {p q : List α} {o : α} {i : Nat} (h : p.length = i) : atI (p ++ o :: q) (i : Int) = some o := by rw [atI_nat, get_mid h]

theorem set_mid {α : Type} {p q : List α} {o x : α} {i : Nat} (h : p.length = i) : (p ++ o :: q).set i x = p ++ x :: q := by
  rw [List.set_append_right _ _ (by omega), h, Nat.sub_self]; rfl

theorem markOpS_eq (a : List OpT) (k : Int) (h : a.length ≤ 1048576) (hx : ∀ o ∈ a, o.2.1.length ≤ 1048576) (hk : 0 ≤ k) (hk2 : k + (sumO (lensO a) : Nat) ≤ 9000000000000) : zz80 big a k = some (k + (sumO (lensO a) : Nat), (marksO k (lensO a), ())) := by
  have hll : (lensO a).length = a.length := List.length_map _
  unfold zz80 zz80_s
  refine zz80_h2 a.length (fun i b q => b = marksO k ((lensO a).take i) ++ a.drop i ∧ q = k + (sumO ((lensO a).take i) : Nat)) (by omega) ?_ ?_ 0 (by omega) _ _ ⟨rfl, by simp [sumO]⟩
  · intro rc i b q hi hv ih
    obtain ⟨e1, e2⟩ := hv
    have hpl : (marksO k ((lensO a).take i)).length = i := by rw [marksO_len, List.length_take, hll]; omega
    have hil : i < (lensO a).length := by omega
    have hs1 := sumO_take (lensO a) hil
    have hs2 := sumO_le (lensO a) (i + 1)
    have hoi := hx _ (List.getElem_mem hi)
    have hle : (lensO a)[i] = (a[i]).2.1.length := by simp
    have hbl : b.length = a.length := by rw [e1, List.length_append, hpl, List.length_drop]; omega
    rw [List.drop_eq_getElem_cons hi] at e1
    unfold zz80_b2
    rw [cdt (by omega)]
    subst e1
    simp only [Int.toNat_natCast, atI_mid hpl, get_mid hpl, set_mid hpl, Option.bind_some]
    rw [wr (by omega) (by omega), markIntS_eq2 _ (q + 1) (by omega) (by omega) (by omega)]
    simp only [Option.bind_some, wr1 (show i ≤ 4611686018427387904 by omega)]
    refine ih _ _ ⟨?_, by omega⟩
    rw [List.take_succ_eq_append_getElem hil, marksO_snoc, e2, hle, List.append_assoc]; rfl
  · intro rc b q hv
    obtain ⟨e1, e2⟩ := hv
    rw [List.drop_length, List.append_nil, ← hll, List.take_length] at e1
    rw [← hll, List.take_length] at e2
    unfold zz80_b2
    rw [cdf (by rw [e1, marksO_len, hll]; omega), zz80_a2, e1, e2]

theorem markAlg_eq {a : AlT} (h : SmallA a) (k : Int) (hk : 0 ≤ k) (hk2 : k + (sumO (lensO a.2.1) : Nat) ≤ 9000000000000) : zz81 a k = some (k + (sumO (lensO a.2.1) : Nat), ((a.1, marksO k (lensO a.2.1), ()), ())) := by
  unfold zz81
  rw [markOpS_eq a.2.1 k h.1 h.2 hk hk2]; rfl

def flt (n : Nat) (f : Nat → Nat → Int) : Nat → List Int
  | 0 => []
  | k + 1 => flt n f k ++ mkR n (f k)

theorem flt_len (n : Nat) (f : Nat → Nat → Int) : ∀ k, (flt n f k).length = k * n
  | 0 => by simp [flt]
  | k + 1 => by rw [flt, List.length_append, flt_len n f k, mkR_len, Nat.succ_mul]

theorem nn_le {i n : Nat} (h1 : i ≤ 10) (h2 : n ≤ 10) : i * n ≤ 100 := by
  have := Nat.mul_le_mul h1 h2; omega

theorem flatOp_eq {n : Nat} {f : Nat → Nat → Int} (h : n ≤ 10) : zz69 big (mkT n f) = some ((2, flt n f n, ()), ()) := by
  unfold zz69 zz69_s
  rw [mkR_len]
  refine zz69_h3 n (fun i o => o = ((2 : Int), flt n f i, ())) (by omega) ?_ ?_ 0 (by omega) _ rfl
  · intro rc i o hi hv ih
    have hl := flt_len n f i
    have hn := nn_le (i := i) (n := n) (by omega) h
    subst hv
    unfold zz69_b3
    have e : appI (flt n f i) (mkR n (f i)) = some (flt n f (i + 1)) := by
      unfold appI
      rw [if_pos (by rw [mkR_len]; omega)]; rfl
    simp only [cdt (show (i : Int) < (n : Int) by omega), atI_mkR hi, Option.bind_some, e, wr1 (show i ≤ 4611686018427387904 by omega)]
    exact ih _ rfl
  · intro rc o hv
    unfold zz69_b3
    rw [cdf (by omega), zz69_a3, hv]

abbrev meetF (n : Nat) (le : Nat → Nat → Bool) : Nat → Nat → Int := fun x y => ((mt n le x y : Nat) : Int)

abbrev sumF (n : Nat) (le : Nat → Nat → Bool) : Nat → Nat → Int := fun x y => ((bsum n le x y : Nat) : Int)

def ringAlg (n : Nat) (le : Nat → Nat → Bool) : AlT := ((n : Int), [(2, flt n (sumF n le) n, ()), (2, flt n (meetF n le) n, ())], ())

theorem sums_eq {n : Nat} {le : Nat → Nat → Bool} (h : BoolP n le) : zz68 big (some (lat n le)) = some (mkT n (sumF n le), ()) := by
  have h10 := h.lp.le10
  unfold zz68 zz68_s
  simp only [complList_eq h, Option.bind_some, lat1, mkR_len]
  refine zz68_h4 n (fun i t => t = mkR i fun x => mkR n (sumF n le x)) (by omega) ?_ ?_ 0 (by omega) _ rfl
  · intro rc i t hi hv ih
    unfold zz68_b4
    simp only [cdt (show (i : Int) < (n : Int) by omega), Option.bind_some, lat1, mkR_len]
    refine zz68_h8 n (fun j r => r = mkR j (sumF n le i)) (by omega) ?_ ?_ 0 (by omega) _ rfl
    · intro rc2 j r hj hr ih2
      have cj := (cpl_spec h.cmp hj).1
      have ci := (cpl_spec h.cmp hi).1
      have l1 := h.lp.mlt hi cj
      have l2 := h.lp.mlt ci hj
      unfold zz68_b8
      simp only [cdt (show (j : Int) < (n : Int) by omega), Option.bind_some, lat2, lat3, Int.toNat_natCast, atI_mkR hi, atI_mkR hj, get_mkR hi, get_mkR hj, atI_mkR ci, atI_mkR cj, atI_mkR l1, atI_mkR l2, wr1 (show j ≤ 4611686018427387904 by omega)]
      rw [app1 (by rw [hr, mkR_len]; omega), Option.bind_some]
      exact ih2 _ (by rw [hr, mkR_succ]; rfl)
    · intro rc2 r hr
      unfold zz68_b8
      rw [cdf (by omega), zz68_a8, app1 (by rw [hv, mkR_len]; omega), Option.bind_some, wr1 (by omega)]
      exact ih _ (by rw [hv, hr, mkR_succ])
  · intro rc t hv
    unfold zz68_b4
    rw [cdf (by omega), zz68_a4, hv]

theorem ring_eq {n : Nat} {le : Nat → Nat → Bool} (h : BoolP n le) : zz70 (some (lat n le)) = some (ringAlg n le, ()) := by
  unfold zz70 zz70_s
  simp only [Option.bind_some, lat1, lat2, mkR_len, sums_eq h, flatOp_eq h.lp.le10]
  rfl

theorem specRing_eq {n : Nat} {le : Nat → Nat → Bool} (h : BoolP n le) : zz34 big (pos n le) = some (ringAlg n le, ()) := by
  have h10 := h.lp.le10
  unfold zz34 zz34_s
  rw [specCompl_eq h, Option.bind_some, pos_len]
  refine zz34_h4 n (fun i a b => a = ((2 : Int), flt n (sumF n le) i, ()) ∧ b = ((2 : Int), flt n (meetF n le) i, ())) (by omega) ?_ ?_ 0 (by omega) _ _ ⟨rfl, rfl⟩
  · intro rc i a b hi hv ih
    obtain ⟨e1, e2⟩ := hv
    subst e1; subst e2
    have hl := flt_len n (meetF n le) i
    have hl2 := flt_len n (sumF n le) i
    have hn := nn_le (i := i) (n := n) (by omega) h10
    unfold zz34_b4
    rw [cdt (by omega)]
    refine zz34_h7 n (fun j a b => a = ((2 : Int), flt n (sumF n le) i ++ mkR j (sumF n le i), ()) ∧ b = ((2 : Int), flt n (meetF n le) i ++ mkR j (meetF n le i), ())) (by omega) ?_ ?_ 0 (by omega) _ _ ⟨by rw [mkR_zero, List.append_nil], by rw [mkR_zero, List.append_nil]⟩
    · intro rc2 j a b hj hv2 ih2
      obtain ⟨e1, e2⟩ := hv2
      subst e1; subst e2
      unfold zz34_b7
      simp only [cdt (show (j : Int) < (n : Int) by omega), specSum_eq h hi hj, l24Meet_eq h.lp hi hj, Option.bind_some]
      rw [app1 (by rw [List.length_append, mkR_len]; omega), Option.bind_some, app1 (by rw [List.length_append, mkR_len]; omega), Option.bind_some, wr1 (by omega)]
      exact ih2 _ _ ⟨by rw [mkR_succ, List.append_assoc], by rw [mkR_succ, List.append_assoc]⟩
    · intro rc2 a b hv2
      obtain ⟨e1, e2⟩ := hv2
      unfold zz34_b7
      rw [cdf (by omega), zz34_a7, wr1 (by omega)]
      exact ih _ _ ⟨e1, e2⟩
  · intro rc a b hv
    obtain ⟨e1, e2⟩ := hv
    unfold zz34_b4
    rw [cdf (by omega), zz34_a4, e1, e2]
    rfl

structure Pt (n : Nat) (P : Nat → Nat) : Prop where
  lo : ∀ x, x < n → P x ≤ x
  id : ∀ x, x < n → P (P x) = P x

theorem Pt.lt {n : Nat} {P : Nat → Nat} (h : Pt n P) {x : Nat} (hx : x < n) : P x < n := Nat.lt_of_le_of_lt (h.lo x hx) hx

def Lep (n : Nat) (P C : Nat → Nat) : Prop := ∀ x, x < n → C (P x) = C x

theorem Lep.refl {n : Nat} {P : Nat → Nat} (h : Pt n P) : Lep n P P := h.id

theorem Lep.trans {n : Nat} {P Q C : Nat → Nat} (h : Pt n P) (h1 : Lep n P Q) (h2 : Lep n Q C) : Lep n P C := fun x hx => by
  have e1 := h1 x hx
  have e2 := h2 (P x) (h.lt hx)
  have e3 := h2 x hx
  rw [← e2, e1, e3]

def opsL (n : Nat) (fs : List (Nat → Nat → Nat)) : List OpT := fs.map fun f => ((2 : Int), flt n (fun x y => ((f x y : Nat) : Int)) n, ())

def algL (n : Nat) (fs : List (Nat → Nat → Nat)) : AlT := ((n : Int), opsL n fs, ())

def Opn (n : Nat) (fs : List (Nat → Nat → Nat)) : Prop := ∀ f ∈ fs, ∀ x y, x < n → y < n → f x y < n

theorem ix_lt {n i : Nat} (h : i < n * n) : i / n < n ∧ i % n < n := by
  have hn : 0 < n := by
    rcases Nat.eq_zero_or_pos n with e | e
    · subst e; omega
    · exact e
  exact ⟨Nat.div_lt_of_lt_mul h, Nat.mod_lt _ hn⟩

theorem ix_mk {n x y : Nat} (hx : x < n) (hy : y < n) : x * n + y < n * n ∧ (x * n + y) / n = x ∧ (x * n + y) % n = y := by
  have hn : 0 < n := by omega
  refine ⟨?_, ?_, ?_⟩
  · have := Nat.mul_le_mul_right n (show x + 1 ≤ n by omega)
    rw [Nat.succ_mul] at this; omega
  · rw [Nat.mul_comm, Nat.mul_add_div hn, Nat.div_eq_of_lt hy, Nat.add_zero]
  · rw [Nat.mul_comm, Nat.mul_add_mod, Nat.mod_eq_of_lt hy]

theorem flt_get {n : Nat} {f : Nat → Nat → Int} (hn : 0 < n) : ∀ {k i : Nat}, i < k * n → (flt n f k)[i]? = some (f (i / n) (i % n))
  | 0, i, h => by omega
  | k + 1, i, h => by
    have hl := flt_len n f k
    rw [Nat.succ_mul] at h
    unfold flt
    by_cases c : i < k * n
    · rw [List.getElem?_append_left (by omega)]; exact flt_get hn c
    · obtain ⟨j, rfl⟩ : ∃ j, i = n * k + j := ⟨i - n * k, by rw [Nat.mul_comm n k]; omega⟩
      have h2 : j < n := by rw [Nat.mul_comm n k] at h; omega
      have h3 : n * k + j - k * n = j := by rw [Nat.mul_comm n k]; omega
      have e1 : (n * k + j) / n = k := by rw [Nat.mul_add_div hn, Nat.div_eq_of_lt h2, Nat.add_zero]
      have e2 : (n * k + j) % n = j := by rw [Nat.mul_add_mod, Nat.mod_eq_of_lt h2]
      rw [List.getElem?_append_right (by omega), hl, h3, get_mkR h2, e1, e2]

theorem ops_len (n : Nat) (fs : List (Nat → Nat → Nat)) : (opsL n fs).length = fs.length := List.length_map _

theorem ops_at {n : Nat} {fs : List (Nat → Nat → Nat)} {t : Nat} (h : t < fs.length) : atI (opsL n fs) (t : Int) = some ((2 : Int), flt n (fun x y => ((fs[t] x y : Nat) : Int)) n, ()) := by
  rw [atI_lt _ t (by rw [ops_len]; exact h)]; simp [opsL]

theorem tab_at {n : Nat} {f : Nat → Nat → Nat} {i : Nat} (h : i < n * n) : atI (flt n (fun x y => ((f x y : Nat) : Int)) n) (i : Int) = some ((f (i / n) (i % n) : Nat) : Int) := by
  have hn : 0 < n := Nat.lt_of_le_of_lt (Nat.zero_le _) (ix_lt h).1
  rw [atI_nat, flt_get hn h]

theorem value2_eq {n : Nat} {fs : List (Nat → Nat → Nat)} (h10 : n ≤ 10) {t x y : Nat} (ht : t < fs.length) (hx : x < n) (hy : y < n) : zz14 big (algL n fs) (t : Int) [(x : Int), (y : Int)] = some (((fs[t] x y : Nat) : Int), ()) := by
  have hnn := nn_le (i := n) (n := n) h10 h10
  obtain ⟨a1, a2, a3⟩ := ix_mk hx hy
  unfold zz14 zz14_s
  refine zz14_h3 2 (fun k v => v = if k = 0 then (0 : Int) else if k = 1 then (x : Int) else ((x * n + y : Nat) : Int)) (by omega) ?_ ?_ 0 (by omega) _ (by simp)
  · intro rc k v hk hv ih
    have hk2 : k = 0 ∨ k = 1 := by omega
    unfold zz14_b3
    rcases hk2 with rfl | rfl
    · rw [if_pos rfl] at hv
      subst hv
      rw [cdt (by simp), show atI [(x : Int), (y : Int)] ((0 : Nat) : Int) = some (x : Int) from rfl, Option.bind_some, Int.zero_mul, wr (n := 0) (by omega) (by omega), wr (by omega) (by omega), wr1 (by omega)]
      exact ih _ (by simp)
    · rw [if_neg (by omega), if_pos rfl] at hv
      subst hv
      rw [cdt (by simp), show atI [(x : Int), (y : Int)] ((1 : Nat) : Int) = some (y : Int) from rfl, Option.bind_some, show (x : Int) * (algL n fs).1 = ((x * n : Nat) : Int) from (Int.natCast_mul x n).symm, wr (n := ((x * n : Nat) : Int)) (by omega) (by omega), wr (by omega) (by omega), wr1 (by omega)]
      exact ih _ (by simp)
  · intro rc v hv
    rw [if_neg (by omega), if_neg (by omega)] at hv
    unfold zz14_b3
    rw [cdf (by simp), zz14_a3, show (algL n fs).2.1 = opsL n fs from rfl, ops_at ht, Option.bind_some, hv, tab_at a1, a2, a3]
    rfl

theorem flt_mkR {n : Nat} {f : Nat → Nat → Int} (hn : 0 < n) (k : Nat) : flt n f k = mkR (k * n) fun j => f (j / n) (j % n) :=
  eq_mkR (flt_len n f k) fun i hi => by
    have := flt_get (f := f) hn (show i < k * n by rw [← flt_len n f k]; exact hi)
    rw [List.getElem?_eq_getElem hi] at this
    exact Option.some.inj this

theorem poset_eq {n : Nat} {le : Nat → Nat → Bool} (hn : n ≤ 1048576) : zz44 big (mkT n le) = some (pos n le, ()) := by
  unfold zz44 zz44_s
  rw [mkR_len]
  refine zz44_h3 n (fun y p => p = (mkR y fun y => cs (fl n fun x => le x y), ())) (by omega) ?_ ?_ 0 (by omega) _ rfl
  · rintro rc y p hy rfl ih
    unfold zz44_b3
    rw [cdt (by omega), mkR_len]
    refine zz44_h7 n (fun x l => l = cs (fl x fun x => le x y)) (by omega) ?_ ?_ 0 (by omega) _ rfl
    · intro rc2 x l hx hv ih2
      have hl := fl_len x fun x => le x y
      unfold zz44_b7
      rw [cdt (by omega), atI_mkR hx, Option.bind_some, atI_mkR hy, Option.bind_some, wr1 (by omega)]
      cases c : le x y with
      | true => rw [cond_true, app1 (by rw [hv, cs_len]; omega), Option.bind_some]; exact ih2 _ (by rw [hv]; exact fl_t (P := fun x => le x y) c)
      | false => exact ih2 _ (by rw [hv]; exact fl_f (P := fun x => le x y) c)
    · intro rc2 l hv
      unfold zz44_b7
      rw [cdf (by omega), zz44_a7, app1 (by rw [mkR_len]; omega), Option.bind_some, wr1 (by omega)]
      exact ih _ (by rw [hv, mkR_succ])
  · rintro rc p rfl
    unfold zz44_b3
    rw [cdf (by omega), zz44_a3]
    rfl

theorem markPoset_eq {p : PT} (h1 : p.1.length ≤ 1048576) (k : Int) (hk : 0 ≤ k) (hk2 : k + (p.1.map List.length).sum ≤ 1099511627775) : zz83 p k = some (k + (p.1.map List.length).sum, ((marksS k (p.1.map List.length), ()), ())) := by
  unfold zz83
  rw [markIntSS_eq p.1 k (by omega) hk hk2]; rfl

theorem heldPoset_eq (k : Int) (ns : List Nat) (h : ns.length ≤ 1048576) (hk : 0 ≤ k) (hk2 : k + ns.sum ≤ 1099511627775) : zz86 (marksS k ns, ()) k = some (k + ns.sum, ()) := by
  unfold zz86 zz86_s
  rw [heldIntSS_eq k ns (by omega) hk hk2, Option.bind_some, cdf (by omega)]

inductive Wd where
  | v (n : Int)
  | op (g : Int) (a b : Wd)

def Wd.fl : Wd → List Int
  | .v n => [n]
  | .op g a b => g :: (a.fl ++ b.fl)

def Wd.hd : Wd → Int
  | .v n => n
  | .op g _ _ => g

def Wd.ok : Wd → Prop
  | .v n => 0 ≤ n ∧ n < 5
  | .op g a b => (g = -1 ∨ g = -2) ∧ a.ok ∧ b.ok

theorem Wd.pos : ∀ A : Wd, 0 < A.fl.length
  | .v n => by simp [Wd.fl]
  | .op g a b => by simp [Wd.fl]

def At (s : List Int) (i : Nat) (A : Wd) : Prop := A.ok ∧ ∃ r, s.drop i = A.fl ++ r

theorem At.lt {s : List Int} {i : Nat} {A : Wd} (h : At s i A) : i + A.fl.length ≤ s.length := by
  obtain ⟨_, r, e⟩ := h
  have := congrArg List.length e
  have := A.pos
  simp only [List.length_drop, List.length_append] at *
  omega

theorem At.head {s : List Int} {i : Nat} {A : Wd} (h : At s i A) : atI s (i : Int) = some A.hd := by
  have hl := h.lt
  have hp := A.pos
  obtain ⟨_, r, e⟩ := h
  rw [atI_nat]
  have : s[i]? = (s.drop i)[0]? := by rw [List.getElem?_drop]; rfl
  rw [this, e]
  cases A <;> simp [Wd.fl, Wd.hd]

theorem rAll_step {α : Type} {L : List α} {p : α → Bool} {i : Nat} (hi : i < L.length) (h : ∀ x ∈ L.take i, p x = true) (hp : p L[i] = true) : ∀ x ∈ L.take (i + 1), p x = true := by
  intro x hx
  rw [List.take_succ_eq_append_getElem hi] at hx
  rcases List.mem_append.1 hx with hx | hx
  · exact h x hx
  · rw [List.mem_singleton] at hx
    rw [hx]; exact hp

theorem rAll_end {α : Type} {L : List α} {p : α → Bool} (h : ∀ x ∈ L.take L.length, p x = true) : L.all p = true := by
  rw [List.take_length] at h
  exact List.all_eq_true.2 h

theorem rAll_bad {α : Type} {L : List α} {p : α → Bool} {i : Nat} (hi : i < L.length) (hp : p L[i] = false) : L.all p = false := by
  rw [List.all_eq_false]
  exact ⟨_, List.getElem_mem hi, by rw [hp]; exact Bool.false_ne_true⟩

theorem ipow_le {n j : Nat} (h : n ≤ 8) (hj : j ≤ 3) : n ^ j ≤ 512 :=
  Nat.le_trans (Nat.pow_le_pow_left h j) (Nat.le_trans (Nat.pow_le_pow_right (by omega) hj) (by decide))

theorem ipow_eq {n : Nat} (h : n ≤ 8) (k : Nat) (hk : k ≤ 3) : zz36 big (n : Int) (k : Int) = some (((n ^ k : Nat) : Int), ()) := by
  unfold zz36 zz36_s
  refine zz36_w2 (fun k _ => k.toNat) (fun q o => ∃ j : Nat, j ≤ k ∧ q = ((k - j : Nat) : Int) ∧ o = ((n ^ j : Nat) : Int)) ?_ _ _ (by simp; omega) ⟨0, by omega, by simp, rfl⟩
  intro rc q o hv ih
  obtain ⟨j, hj, e1, e2⟩ := hv
  subst e1; subst e2
  unfold zz36_b2
  by_cases hjk : j < k
  · have hp := ipow_le h (show j + 1 ≤ 3 by omega)
    rw [Nat.pow_succ] at hp
    rw [cdt (by omega), wr (n := ((k - j : Nat) : Int) - 1) (by omega) (by omega), ← Int.natCast_mul, wr (n := ((n ^ j * n : Nat) : Int)) (by omega) (by omega)]
    exact ih _ _ ⟨j + 1, by omega, by omega, by rw [Nat.pow_succ]⟩ (by omega)
  · rw [cdf (by omega), zz36_a2, show j = k by omega]

theorem spow_eq {n : Nat} (h : n ≤ 8) (k : Nat) (hk : k ≤ 3) : zz9 big (n : Int) (k : Int) = some (((n ^ k : Nat) : Int), ()) := by
  unfold zz9 zz9_s
  refine zz9_w2 (fun k _ => k.toNat) (fun q o => ∃ j : Nat, j ≤ k ∧ q = ((k - j : Nat) : Int) ∧ o = ((n ^ j : Nat) : Int)) ?_ _ _ (by simp; omega) ⟨0, by omega, by simp, rfl⟩
  intro rc q o hv ih
  obtain ⟨j, hj, e1, e2⟩ := hv
  subst e1; subst e2
  unfold zz9_b2
  by_cases hjk : j < k
  · have hp := ipow_le h (show j + 1 ≤ 3 by omega)
    rw [Nat.pow_succ] at hp
    rw [cdt (by omega), wr (n := ((k - j : Nat) : Int) - 1) (by omega) (by omega), ← Int.natCast_mul, wr (n := ((n ^ j * n : Nat) : Int)) (by omega) (by omega)]
    exact ih _ _ ⟨j + 1, by omega, by omega, by rw [Nat.pow_succ]⟩ (by omega)
  · rw [cdf (by omega), zz9_a2, show j = k by omega]

def opB (n : Nat) (f : OpT) : Bool := decide (0 ≤ f.1 ∧ f.1 ≤ 3 ∧ f.2.1.length = n ^ f.1.toNat) && f.2.1.all (inB n)

theorem isOpB_eq {n : Nat} (h : n ≤ 8) (f : OpT) (hl : f.2.1.length ≤ 1048576) : zz38 f (n : Int) = some (opB n f, ()) := by
  unfold zz38 zz38_s opB
  by_cases h0 : 0 ≤ f.1
  · rw [cdt h0]
    by_cases h3 : f.1 ≤ 3
    · rw [cdt h3]
      have e := ipow_eq h f.1.toNat (by omega)
      rw [show ((f.1.toNat : Nat) : Int) = f.1 by omega] at e
      rw [e, Option.bind_some]
      by_cases hn : f.2.1.length = n ^ f.1.toNat
      · rw [cdt (by omega), inSize_eq n f.2.1 (by omega), Option.bind_some, decide_eq_true ⟨h0, h3, hn⟩, Bool.true_and]
      · rw [cdf (by omega), decide_eq_false (fun c => hn c.2.2), Bool.false_and]
    · rw [cdf h3, decide_eq_false (fun c => h3 c.2.1), Bool.false_and]
  · rw [cdf h0, decide_eq_false (fun c => h0 c.1), Bool.false_and]

theorem l2OpB_eq {n : Nat} (h : n ≤ 8) (f : OpT) (hl : f.2.1.length ≤ 1048576) : zz10 big (n : Int) f = some (opB n f, ()) := by
  unfold zz10 zz10_s opB
  rw [l1In_eq, Option.bind_some]
  by_cases h03 : 0 ≤ f.1 ∧ f.1 ≤ 3
  · rw [decide_eq_true h03, Bool.not_true, cond_false]
    have e := spow_eq h f.1.toNat (by omega)
    rw [show ((f.1.toNat : Nat) : Int) = f.1 by omega] at e
    rw [e, Option.bind_some]
    by_cases hn : f.2.1.length = n ^ f.1.toNat
    · rw [cdf (by omega), decide_eq_true ⟨h03.1, h03.2, hn⟩, Bool.true_and]
      refine zz10_h4 f.2.1.length (fun i => ∀ x ∈ f.2.1.take i, inB n x = true) (by omega) ?_ ?_ 0 (by omega) (by simp)
      · intro rc i hi hv ih
        unfold zz10_b4
        rw [cdt (by omega), atI_lt _ i hi, Option.bind_some, wr (n := (n : Int) - 1) (by omega) (by omega), l1In_eq, Option.bind_some, wr1 (by omega)]
        by_cases hb : inB n f.2.1[i] = true
        · have hb2 := hb
          unfold inB at hb2
          have hb3 := of_decide_eq_true hb2
          rw [decide_eq_true (show (0 ≤ f.2.1[i] ∧ f.2.1[i] ≤ (n : Int) - 1) by omega), Bool.not_true, cond_false]
          exact ih (rAll_step hi hv hb)
        · have hb2 : inB n f.2.1[i] = false := by simpa using hb
          rw [rAll_bad hi hb2]
          unfold inB at hb2
          have hb3 := of_decide_eq_false hb2
          rw [decide_eq_false (show ¬ (0 ≤ f.2.1[i] ∧ f.2.1[i] ≤ (n : Int) - 1) by omega), Bool.not_false, cond_true]
      · intro rc hv
        unfold zz10_b4
        rw [cdf (by omega), zz10_a4, rAll_end hv]
    · rw [cdt (by omega), decide_eq_false (fun c => hn c.2.2), Bool.false_and]
  · rw [decide_eq_false h03, Bool.not_false, cond_true, decide_eq_false (fun c => h03 ⟨c.1, c.2.1⟩), Bool.false_and]

def algB (a : AlT) : Bool := decide (1 ≤ a.1 ∧ a.1 ≤ 8 ∧ a.2.1.length ≤ 4) && a.2.1.all (opB a.1.toNat)

theorem isAlgB_eq (a : AlT) (h : SmallA a) : zz39 big a = some (algB a, ()) := by
  unfold zz39 zz39_s algB
  by_cases h1 : a.1 < 1
  · rw [cdt h1, decide_eq_false (by omega), Bool.false_and]
  · by_cases h8 : 8 < a.1
    · rw [cdf h1, cdt h8, decide_eq_false (by omega), Bool.false_and]
    · by_cases h4 : 4 < a.2.1.length
      · rw [cdf h1, cdf h8, cdt (by omega), decide_eq_false (by omega), Bool.false_and]
      · rw [cdf h1, cdf h8, cdf (by omega), decide_eq_true (by omega), Bool.true_and]
        refine zz39_h4 a.2.1.length (fun i => ∀ x ∈ a.2.1.take i, opB a.1.toNat x = true) (by omega) ?_ ?_ 0 (by omega) (by simp)
        · intro rc i hi hv ih
          have e := isOpB_eq (n := a.1.toNat) (by omega) a.2.1[i] (h.2 _ (List.getElem_mem hi))
          rw [show ((a.1.toNat : Nat) : Int) = a.1 by omega] at e
          unfold zz39_b4
          rw [cdt (by omega), atI_lt _ i hi, Option.bind_some, e, Option.bind_some, wr1 (by omega)]
          cases hb : opB a.1.toNat a.2.1[i] with
          | true => exact ih (rAll_step hi hv hb)
          | false => rw [rAll_bad hi hb]; rfl
        · intro rc hv
          unfold zz39_b4
          rw [cdf (by omega), zz39_a4, rAll_end hv]

theorem l2GoodB_eq (a : AlT) (h : SmallA a) : zz11 big a = some (algB a, ()) := by
  unfold zz11 zz11_s algB
  rw [l1In_eq, Option.bind_some]
  by_cases h18 : 1 ≤ a.1 ∧ a.1 ≤ 8
  · rw [decide_eq_true h18, Bool.not_true, cond_false]
    by_cases h4 : 4 < a.2.1.length
    · rw [cdt (by omega), decide_eq_false (by omega), Bool.false_and]
    · rw [cdf (by omega), decide_eq_true (by omega), Bool.true_and]
      refine zz11_h4 a.2.1.length (fun i => ∀ x ∈ a.2.1.take i, opB a.1.toNat x = true) (by omega) ?_ ?_ 0 (by omega) (by simp)
      · intro rc i hi hv ih
        have e := l2OpB_eq (n := a.1.toNat) (by omega) a.2.1[i] (h.2 _ (List.getElem_mem hi))
        rw [show ((a.1.toNat : Nat) : Int) = a.1 by omega] at e
        unfold zz11_b4
        rw [cdt (by omega), atI_lt _ i hi, Option.bind_some, e, Option.bind_some, wr1 (by omega)]
        cases hb : opB a.1.toNat a.2.1[i] with
        | true => exact ih (rAll_step hi hv hb)
        | false => rw [rAll_bad hi hb]; rfl
      · intro rc hv
        unfold zz11_b4
        rw [cdf (by omega), zz11_a4, rAll_end hv]
  · rw [decide_eq_false h18, Bool.not_false, cond_true, decide_eq_false (by omega), Bool.false_and]

theorem l2TypeB_eq (a : AlT) (h : a.2.1.length ≤ 1048576) : zz12 big a = some (a.2.1.map (·.1), ()) := by
  unfold zz12 zz12_s
  refine zz12_h3 a.2.1.length (fun i l => l = (a.2.1.take i).map (·.1)) (by omega) ?_ ?_ 0 (by omega) _ rfl
  · rintro rc i l hi rfl ih
    unfold zz12_b3
    rw [cdt (by omega), atI_lt _ i hi, Option.bind_some, app1 (by rw [List.length_map, List.length_take]; omega), Option.bind_some, wr1 (by omega)]
    exact ih _ (by rw [List.take_succ_eq_append_getElem hi, List.map_append]; rfl)
  · rintro rc l rfl
    unfold zz12_b3
    rw [cdf (by omega), zz12_a3, List.take_length]

theorem typeOfB_eq (a : AlT) (h : a.2.1.length ≤ 1048576) : zz40 big a = some (a.2.1.map (·.1), ()) := by
  unfold zz40 zz40_s
  refine zz40_h3 a.2.1.length (fun i l => l = (a.2.1.take i).map (·.1)) (by omega) ?_ ?_ 0 (by omega) _ rfl
  · rintro rc i l hi rfl ih
    unfold zz40_b3
    rw [cdt (by omega), atI_lt _ i hi, Option.bind_some, app1 (by rw [List.length_map, List.length_take]; omega), Option.bind_some, wr1 (by omega)]
    exact ih _ (by rw [List.take_succ_eq_append_getElem hi, List.map_append]; rfl)
  · rintro rc l rfl
    unfold zz40_b3
    rw [cdf (by omega), zz40_a3, List.take_length]

theorem sameAlgB_eq (a b : AlT) (h : SmallA a) : zz71 big a b = some (decide (a = b), ()) := by
  have h1 := h.1
  unfold zz71 zz71_s
  by_cases e1 : a.1 = b.1
  · rw [cdf (fun c => c e1)]
    by_cases e2 : a.2.1.length = b.2.1.length
    · rw [cdf (by omega)]
      refine zz71_h4 a.2.1.length (fun i => a.2.1.take i = b.2.1.take i) (by omega) ?_ ?_ 0 (by omega) rfl
      · intro rc i hi hv ih
        have hib : i < b.2.1.length := by omega
        unfold zz71_b4
        rw [cdt (by omega), atI_lt _ i hi, Option.bind_some, atI_lt _ i hib, Option.bind_some]
        by_cases c1 : a.2.1[i].1 = b.2.1[i].1
        · rw [cdf (fun c => c c1), Option.bind_some, sameList_eq _ _ (by have := h.2 _ (List.getElem_mem hi); omega), Option.bind_some, wr1 (by omega)]
          by_cases c2 : a.2.1[i].2.1 = b.2.1[i].2.1
          · rw [decide_eq_true c2, Bool.not_true, cond_false]
            refine ih ?_
            rw [List.take_succ_eq_append_getElem hi, List.take_succ_eq_append_getElem hib, hv, show a.2.1[i] = b.2.1[i] from Prod.ext c1 (Prod.ext c2 rfl)]
          · rw [decide_eq_false c2, Bool.not_false, cond_true, decide_eq_false]
            intro e
            subst e
            exact c2 rfl
        · rw [cdt c1, decide_eq_false]
          intro e
          subst e
          exact c1 rfl
      · intro rc hv
        unfold zz71_b4
        rw [List.take_length, e2, List.take_length] at hv
        rw [cdf (by omega), zz71_a4, decide_eq_true]
        exact Prod.ext e1 (Prod.ext hv rfl)
    · rw [cdt (by omega), decide_eq_false]
      intro e
      subst e
      exact e2 rfl
  · rw [cdt e1, decide_eq_false]
    intro e
    subst e
    exact e1 rfl

theorem alg_two {a : AlT} (h : algB a = true) (ht : a.2.1.map (·.1) = [2, 2]) : ∃ n f g, 1 ≤ n ∧ n ≤ 8 ∧ Opn n [f, g] ∧ a = algL n [f, g] := by
  unfold algB at h
  rw [Bool.and_eq_true] at h
  obtain ⟨h1, h2⟩ := h
  have h1 := of_decide_eq_true h1
  obtain ⟨m, ops, u⟩ := a
  simp only at h1 h2 ht
  obtain ⟨n, rfl⟩ : ∃ n : Nat, m = (n : Int) := ⟨m.toNat, by omega⟩
  simp only [Int.toNat_natCast] at h2
  have one : ∀ o : OpT, o.1 = 2 → opB n o = true → ∃ f : Nat → Nat → Nat, (∀ x y, x < n → y < n → f x y < n) ∧ o = ((2 : Int), flt n (fun x y => ((f x y : Nat) : Int)) n, ()) := by
    intro o ho hb
    unfold opB at hb
    rw [Bool.and_eq_true] at hb
    obtain ⟨b1, b2⟩ := hb
    have b1 := of_decide_eq_true b1
    rw [ho, show (2 : Int).toNat = 2 from rfl, Nat.pow_two] at b1
    have hl := b1.2.2
    have b3 := List.all_eq_true.1 b2
    have key : ∀ i, (hi : i < o.2.1.length) → 0 ≤ o.2.1[i] ∧ o.2.1[i] < n := fun i hi => of_decide_eq_true (b3 _ (List.getElem_mem hi))
    refine ⟨fun x y => (o.2.1.getD (x * n + y) 0).toNat, fun x y hx hy => ?_, ?_⟩
    · have hi : x * n + y < o.2.1.length := by rw [hl]; exact (ix_mk hx hy).1
      have := key _ hi
      simp only [List.getD_eq_getElem?_getD, List.getElem?_eq_getElem hi, Option.getD_some]
      omega
    · refine Prod.ext ho (Prod.ext ?_ rfl)
      have hn : 0 < n := by omega
      rw [flt_mkR hn]
      refine eq_mkR hl fun i hi => ?_
      have := key _ hi
      have e : i / n * n + i % n = i := by rw [Nat.mul_comm]; exact Nat.div_add_mod i n
      simp only [e, List.getD_eq_getElem?_getD, List.getElem?_eq_getElem hi, Option.getD_some]
      omega
  rcases ops with _ | ⟨o1, _ | ⟨o2, _ | ⟨o3, r⟩⟩⟩
  · simp at ht
  · simp at ht
  rotate_left
  · simp at ht
  · simp only [List.map_cons, List.map_nil, List.cons.injEq, and_true] at ht
    simp only [List.all_cons, List.all_nil, Bool.and_true, Bool.and_eq_true] at h2
    obtain ⟨f, hf, ef⟩ := one o1 ht.1 h2.1
    obtain ⟨g, hg, eg⟩ := one o2 ht.2 h2.2
    refine ⟨n, f, g, by omega, by omega, ?_, ?_⟩
    · intro k hk
      rcases List.mem_cons.1 hk with rfl | hk
      · exact hf
      · rw [List.mem_singleton] at hk
        subst hk
        exact hg
    · rw [ef, eg]; rfl

def omF (g : Nat → Nat → Nat) (i j x y : Nat) : Bool := if x < i ∨ (x = i ∧ y < j) then decide (g x y = x) else false

theorem orderOfMeet_eq {n : Nat} {g : Nat → Nat → Nat} (h8 : n ≤ 8) : zz43 big (n : Int) (flt n (fun x y => ((g x y : Nat) : Int)) n) = some (mkT n fun x y => decide (g x y = x), ()) := by
  have hnn := nn_le (i := n) (n := n) (by omega) (by omega)
  unfold zz43 zz43_s
  rw [newOrder_eq (by omega), Option.bind_some]
  simp only [mkR_len]
  refine zz43_h3 n (fun i o => o = mkT n fun x y => if x < i then decide (g x y = x) else false) (by omega) ?_ ?_ 0 (by omega) _ (mkT_congr fun x y _ _ => by rw [if_neg (by omega)])
  · rintro rc i o hi rfl ih
    unfold zz43_b3
    rw [cdt (by omega), mkR_len]
    refine zz43_h6 n (fun j o => o = mkT n (omF g i j)) (by omega) ?_ ?_ 0 (by omega) _ (mkT_congr fun x y _ _ => by simp [omF])
    · rintro rc2 j o hj rfl ih2
      obtain ⟨a1, a2, a3⟩ := ix_mk hi hj
      have hij : i * n ≤ n * n := Nat.mul_le_mul_right n (by omega)
      have e0 : IntKind.i64.wrap (IntKind.i64.wrap ((i : Int) * (n : Int)) + (j : Int)) = ((i * n + j : Nat) : Int) := by
        rw [← Int.natCast_mul, wr (n := ((i * n : Nat) : Int)) (by omega) (by omega), wr (by omega) (by omega)]; omega
      have e1 := tab_at (f := g) a1
      rw [a2, a3] at e1
      unfold zz43_b6
      simp only [cdt (show (j : Int) < (n : Int) by omega), atI_mkR hi, Option.bind_some, Int.toNat_natCast, get_mkR hi, e0, e1, atI_mkR hj, get_mkR hj, wr1 (show j ≤ 4611686018427387904 by omega)]
      refine ih2 _ ?_
      rw [mkT_set]
      refine mkT_congr fun x y hx hy => ?_
      unfold omF
      by_cases c : x = i ∧ y = j
      · obtain ⟨rfl, rfl⟩ := c
        rw [if_pos ⟨rfl, rfl⟩, if_pos (.inr ⟨rfl, by omega⟩)]
        exact decide_eq_decide.2 (by omega)
      · rw [if_neg c]
        by_cases c2 : x < i ∨ (x = i ∧ y < j)
        · rw [if_pos c2, if_pos (by omega)]
        · rw [if_neg c2, if_neg (by omega)]
    · rintro rc2 o rfl
      unfold zz43_b6
      rw [cdf (by omega), zz43_a6, wr1 (by omega)]
      refine ih _ (mkT_congr fun x y hx hy => ?_)
      unfold omF
      by_cases c : x < i ∨ (x = i ∧ y < n)
      · rw [if_pos c, if_pos (by omega)]
      · rw [if_neg c, if_neg (by omega)]
  · rintro rc o rfl
    unfold zz43_b3
    rw [cdf (by omega), zz43_a3, mkT_congr fun x y hx hy => by rw [if_pos hx]]

theorem ring_ne {m : Nat} {le : Nat → Nat → Bool} {f g : Nat → Nat → Nat} (e : ringAlg m le = algL m [f, g]) : flt m (sumF m le) m = flt m (fun x y => ((f x y : Nat) : Int)) m ∧ flt m (meetF m le) m = flt m (fun x y => ((g x y : Nat) : Int)) m := by
  have e2 : [((2 : Int), flt m (sumF m le) m, ()), ((2 : Int), flt m (meetF m le) m, ())] = [((2 : Int), flt m (fun x y => ((f x y : Nat) : Int)) m, ()), ((2 : Int), flt m (fun x y => ((g x y : Nat) : Int)) m, ())] := congrArg (fun a : AlT => a.2.1) e
  simp only [List.cons.injEq, Prod.mk.injEq, true_and, and_true] at e2
  exact e2

theorem specRingLoop {n : Nat} {f g : Nat → Nat → Nat} (n8 : n ≤ 8) {res : Option (((List (List Int) × Unit) × (Bool × Unit)) × Unit)} (hres : zz35_a5 (algL n [f, g]) ([], ()) (pos n fun x y => decide (g x y = x)) = res) : zz35_F5 big (algL n [f, g]) ([], ()) ([], ()) (0 : Int) = res := by
  refine zz35_h5 n (fun y p => p = (mkR y fun y => cs (fl n fun x => decide (g x y = x)), ())) (by omega) ?_ ?_ 0 (by omega) _ rfl
  · rintro rc y p hy rfl ih
    unfold zz35_b5
    rw [show (algL n [f, g]).1 = (n : Int) from rfl, cdt (by omega)]
    refine zz35_h9 n (fun x l => l = cs (fl x fun x => decide (g x y = x))) (by omega) ?_ ?_ 0 (by omega) _ rfl
    · intro rc2 x l hx hv ih2
      have hl := fl_len x fun x => decide (g x y = x)
      have e1 : zz14 big (algL n [f, g]) 1 [(x : Int), (y : Int)] = some (((g x y : Nat) : Int), ()) := value2_eq (fs := [f, g]) (t := 1) (by omega) (by simp) hx hy
      unfold zz35_b9
      rw [show (algL n [f, g]).1 = (n : Int) from rfl, cdt (by omega), e1, Option.bind_some, wr1 (by omega)]
      by_cases c : g x y = x
      · rw [cdt (congrArg Nat.cast c), app1 (by rw [hv, cs_len]; omega), Option.bind_some]
        exact ih2 _ (by rw [hv]; exact fl_t (P := fun x => decide (g x y = x)) (decide_eq_true c))
      · rw [cdf (show ¬ ((g x y : Nat) : Int) = (x : Int) by omega)]
        exact ih2 _ (by rw [hv]; exact fl_f (P := fun x => decide (g x y = x)) (decide_eq_false c))
    · intro rc2 l hv
      unfold zz35_b9
      rw [show (algL n [f, g]).1 = (n : Int) from rfl, cdf (by omega), zz35_a9, app1 (by rw [mkR_len]; omega), Option.bind_some, wr1 (by omega)]
      exact ih _ (by rw [hv, mkR_succ])
  · rintro rc p rfl
    unfold zz35_b5
    rw [show (algL n [f, g]).1 = (n : Int) from rfl, cdf (by omega)]
    exact hres

theorem ringEnd {m : Nat} {le : Nat → Nat → Bool} {f g : Nat → Nat → Nat} (h : BoolP m le) (n8 : m ≤ 8) (g1 : zz31 (pos m le) = some (true, ())) : zz35_a5 (algL m [f, g]) ([], ()) (pos m le) = some (bif decide (ringAlg m le = algL m [f, g]) then (pos m le, true, ()) else ((([] : List (List Int)), ()), false, ()), ()) := by
  have hnn := nn_le (i := m) (n := m) (by omega) (by omega)
  have o0 : atI (algL m [f, g]).2.1 (0 : Int) = some ((2 : Int), flt m (fun x y => ((f x y : Nat) : Int)) m, ()) := ops_at (fs := [f, g]) (t := 0) (by simp)
  have o1 : atI (algL m [f, g]).2.1 (1 : Int) = some ((2 : Int), flt m (fun x y => ((g x y : Nat) : Int)) m, ()) := ops_at (fs := [f, g]) (t := 1) (by simp)
  have r0 : atI (ringAlg m le).2.1 (0 : Int) = some ((2 : Int), flt m (sumF m le) m, ()) := rfl
  have r1 : atI (ringAlg m le).2.1 (1 : Int) = some ((2 : Int), flt m (meetF m le) m, ()) := rfl
  have q0 : (ringAlg m le).2.1[(0 : Int).toNat]? = some ((2 : Int), flt m (sumF m le) m, ()) := rfl
  have q1 : (ringAlg m le).2.1[(1 : Int).toNat]? = some ((2 : Int), flt m (meetF m le) m, ()) := rfl
  have l0 : (flt m (sumF m le) m).length ≤ 4294967296 := by rw [flt_len]; omega
  have l1 : (flt m (meetF m le) m).length ≤ 4294967296 := by rw [flt_len]; omega
  have s0 := l1Same_eq (flt m (sumF m le) m) (flt m (fun x y => ((f x y : Nat) : Int)) m) l0
  have s1 := l1Same_eq (flt m (meetF m le) m) (flt m (fun x y => ((g x y : Nat) : Int)) m) l1
  have e3 := specRing_eq h
  generalize hA : ringAlg m le = A at *
  generalize hB : algL m [f, g] = B at *
  unfold zz35_a5
  rw [g1, Option.bind_some, Bool.not_true, cond_false, e3, Option.bind_some]
  dsimp only
  rw [r0, Option.bind_some, q0, Option.bind_some, Option.bind_some, o0, Option.bind_some, Option.bind_some, s0, Option.bind_some]
  by_cases c0 : flt m (sumF m le) m = flt m (fun x y => ((f x y : Nat) : Int)) m
  · rw [decide_eq_true c0, Bool.not_true, cond_false, r1, Option.bind_some, q1, Option.bind_some, Option.bind_some, o1, Option.bind_some, Option.bind_some, s1, Option.bind_some]
    by_cases c1 : flt m (meetF m le) m = flt m (fun x y => ((g x y : Nat) : Int)) m
    · rw [decide_eq_true c1, Bool.not_true, cond_false, decide_eq_true (show A = B by rw [← hA, ← hB]; unfold ringAlg; rw [c0, c1]; rfl), cond_true]
    · have hne : ¬ A = B := fun e => c1 (ring_ne (hA.trans (e.trans hB.symm))).2
      rw [decide_eq_false c1, Bool.not_false, cond_true, decide_eq_false hne, cond_false]
  · have hne : ¬ A = B := fun e => c0 (ring_ne (hA.trans (e.trans hB.symm))).1
    rw [decide_eq_false c0, Bool.not_false, cond_true, decide_eq_false hne, cond_false]

theorem latticeOfRing_eq (a : AlT) (hs : SmallA a) : ∃ v : PT × Bool × Unit, zz35 big a = some (v, ()) ∧ zz72 a = some (v, ()) ∧ v.1.1.length ≤ 10 ∧ ∀ x ∈ v.1.1, x.length ≤ 10 := by
  unfold zz35 zz35_s zz72 zz72_s
  rw [l2GoodB_eq a hs, isAlgB_eq a hs, Option.bind_some, Option.bind_some]
  cases hb : algB a with
  | false =>
    rw [Bool.not_false, cond_true, cond_true]
    exact ⟨_, rfl, rfl, by simp, by simp⟩
  | true =>
    have h1 := hs.1
    rw [Bool.not_true, cond_false, cond_false, l2TypeB_eq a h1, typeOfB_eq a h1, Option.bind_some, Option.bind_some, l1Same_eq _ _ (by rw [List.length_map]; omega), sameList_eq _ _ (by rw [List.length_map]; omega), Option.bind_some, Option.bind_some]
    by_cases ht : a.2.1.map (·.1) = [2, 2]
    · rw [decide_eq_true ht, Bool.not_true, cond_false, cond_false]
      obtain ⟨n, f, g, n1, n8, ho, rfl⟩ := alg_two hb ht
      have hnn := nn_le (i := n) (n := n) (by omega) (by omega)
      have o0 : atI (algL n [f, g]).2.1 (0 : Int) = some ((2 : Int), flt n (fun x y => ((f x y : Nat) : Int)) n, ()) := ops_at (fs := [f, g]) (t := 0) (by simp)
      have o1 : atI (algL n [f, g]).2.1 (1 : Int) = some ((2 : Int), flt n (fun x y => ((g x y : Nat) : Int)) n, ()) := ops_at (fs := [f, g]) (t := 1) (by simp)
      have hrows : ∀ r ∈ (pos n fun x y => decide (g x y = x)).1, r.length ≤ 10 := by
        intro r hr
        obtain ⟨y, hy, rfl⟩ := mkR_mem.1 hr
        rw [cs_len]
        exact Nat.le_trans (fl_len _ _) (by omega)
      have hpl : (pos n fun x y => decide (g x y = x)).1.length ≤ 10 := by rw [pos_len]; omega
      -- the program
      rw [o1, Option.bind_some, show (algL n [f, g]).1 = (n : Int) from rfl, orderOfMeet_eq n8, Option.bind_some, poset_eq (by omega), Option.bind_some]
      have hsp := fun res h => specRingLoop (f := f) (g := g) n8 (res := res) h
      have hx : ∀ r ∈ (pos n fun x y => decide (g x y = x)).1, r.length ≤ 4294967296 := fun r hr => by have := hrows r hr; omega
      generalize hP : (pos n fun x y => decide (g x y = x)) = P at *
      rcases bool_cases hx with ⟨m, le, e, h, g1, g2⟩ | ⟨g1, l, g2⟩
      · rw [g2, Option.bind_some]
        simp only [Bool.not_true, cond_false]
        subst e
        have hm : m = n := by
          have := congrArg (fun p : PT => p.1.length) hP
          simp only [pos_len] at this
          exact this.symm
        subst hm
        have hA : SmallA (ringAlg m le) := by
          refine ⟨by simp [ringAlg], fun o ho => ?_⟩
          have hl := flt_len m (meetF m le) m
          have hl2 := flt_len m (sumF m le) m
          simp only [ringAlg, List.mem_cons, List.not_mem_nil, or_false] at ho
          rcases ho with rfl | rfl
          · simp only [hl2]; omega
          · simp only [hl]; omega
        rw [ring_eq h, Option.bind_some, sameAlgB_eq _ _ hA, Option.bind_some]
        have ha5 := ringEnd (f := f) (g := g) h n8 g1
        rw [hsp _ ha5]
        cases decide (ringAlg m le = algL m [f, g]) with
        | true => exact ⟨_, rfl, rfl, hpl, hrows⟩
        | false => exact ⟨_, rfl, rfl, by simp, by simp⟩
      · rw [g2, Option.bind_some]
        have ha5 : zz35_a5 (algL n [f, g]) ([], ()) P = some (((([] : List (List Int)), ()), false, ()), ()) := by
          unfold zz35_a5
          rw [g1]
          rfl
        rw [hsp _ ha5]
        exact ⟨_, rfl, rfl, by simp, by simp⟩
    · rw [decide_eq_false ht, Bool.not_false, cond_true, cond_true]
      exact ⟨_, rfl, rfl, by simp, by simp⟩

theorem szOp_eq (o : OpT) (l : Int) (h : o.2.1.length ≤ 9223372036854775807) (h0 : 0 ≤ l) (h1 : l ≤ 1048576) : ∃ v, zz1 o l = some (v, ()) ∧ v ≤ 1048576 ∧ (0 ≤ v → o.2.1.length ≤ 1048576) := by
  obtain ⟨v, hv, hv1, hv2⟩ := szIntS_eq o.2.1 l h h0 h1
  unfold zz1 zz1_s
  rw [hv, Option.bind_some]
  by_cases c : v < 0
  · rw [cdt c]; exact ⟨_, rfl, by omega, by omega⟩
  · rw [cdf c]; exact ⟨_, rfl, hv1, hv2⟩

theorem szOpS_l (N : Nat) : ∀ (n : Nat) (a : List OpT) (l : Int) (i : Nat), a.length - i < n → i ≤ a.length → a.length ≤ 1048576 → 0 ≤ l → l ≤ 1048576 → (∀ x ∈ a, x.2.1.length ≤ 9223372036854775807) →
    ∃ v, zz2_l5 N zz2_a5 n a l i = some (v, ()) ∧ v ≤ 1048576 ∧ (0 ≤ v → ∀ x ∈ a.drop i, x.2.1.length ≤ 1048576)
  | 0, _, _, _, h, _, _, _, _, _ => by omega
  | n + 1, a, l, i, h, hi, hb, h0, h1, hx => by
    simp only [zz2_l5, zz2_b5]
    by_cases hlt : i < a.length
    · obtain ⟨v, hv, hv1, hv2⟩ := szOp_eq _ l (hx _ (List.getElem_mem hlt)) h0 h1
      rw [cdt (by omega), atI_lt a i hlt, Option.bind_some, hv, Option.bind_some, wr1 (by omega)]
      by_cases hl : v < 0
      · rw [cdt hl]
        exact ⟨_, rfl, by omega, by omega⟩
      · rw [cdf hl]
        obtain ⟨w, hw, hw1, hw2⟩ := szOpS_l N n a v (i + 1) (by omega) (by omega) hb (by omega) hv1 hx
        refine ⟨w, hw, hw1, fun h x hx' => ?_⟩
        rw [List.drop_eq_getElem_cons hlt] at hx'
        rcases List.mem_cons.1 hx' with rfl | hx'
        · exact hv2 (by omega)
        · exact hw2 h x hx'
    · rw [cdf (by omega), List.drop_eq_nil_of_le (by omega)]
      exact ⟨_, rfl, h1, by simp⟩

theorem szAlg_eq (a : AlT) (l : Int) (hw : Wf (.pair I (.pair (.sl (.pair I (.pair (.sl I) .unit))) .unit)) a) (h0 : 0 ≤ l) (h1 : l ≤ 1048576) : ∃ v, zz3 a l = some (v, ()) ∧ v ≤ 1048576 ∧ (0 ≤ v → SmallA a) := by
  simp only [Wf, maxLen] at hw
  have hb := big_ge
  have ha := hw.2.1.1
  have hx : ∀ x ∈ a.2.1, x.2.1.length ≤ 9223372036854775807 := fun x hx => (hw.2.1.2 x hx).2.1.1
  unfold zz3 zz3_s zz2 zz2_s
  rw [wr (by omega) (by omega)]
  by_cases h : l - (a.2.1.length : Int) < 0
  · rw [cdt h, Option.bind_some, cdt (by omega)]
    exact ⟨_, rfl, by omega, by omega⟩
  · rw [cdf h]
    unfold zz2_F5
    obtain ⟨v, hv, hv1, hv2⟩ := szOpS_l big big a.2.1 (l - a.2.1.length) 0 (by omega) (by omega) (by omega) (by omega) (by omega) hx
    rw [show (0 : Int) = ((0 : Nat) : Int) from rfl, hv, Option.bind_some]
    by_cases c : v < 0
    · rw [cdt (by omega)]; exact ⟨_, rfl, by omega, by omega⟩
    · rw [cdf (by omega)]; exact ⟨_, rfl, hv1, fun h0 => ⟨by omega, by simpa using hv2 h0⟩⟩

theorem toOp_eq {o : OpT} (h : o.2.1.length ≤ 1048576) : zz5 o = some (o, ()) := by
  unfold zz5 zz5_s
  rw [toIntS_eq _ (by omega), Option.bind_some]

theorem toOpS_eq (a : List OpT) (h : a.length ≤ 1048576) (hx : ∀ x ∈ a, x.2.1.length ≤ 1048576) : zz6 big a = some (a, ()) := by
  unfold zz6 zz6_s
  rw [mkI_nat _ _ (by omega), Option.bind_some, Option.bind_some, cdt (by omega)]
  refine zz6_h3 a.length (fun i o => o.length = a.length ∧ o.take i = a.take i) (by omega) ?_ ?_ 0 (by omega) _ ⟨by simp, rfl⟩
  · intro rc i o hi hv ih
    have ho : i < o.length := by omega
    unfold zz6_b3
    rw [cdt (by omega), atI_lt a i hi, Option.bind_some, toOp_eq (hx _ (List.getElem_mem hi)), Option.bind_some, atI_lt o i ho, Option.bind_some, Int.toNat_natCast, List.getElem?_eq_getElem ho, Option.bind_some, wr1 (by omega)]
    refine ih _ ⟨by rw [List.length_set]; exact hv.1, ?_⟩
    rw [List.take_succ_eq_append_getElem (by rw [List.length_set]; exact ho), List.take_succ_eq_append_getElem hi, List.getElem_set_self, List.take_set, List.set_eq_of_length_le (by rw [List.length_take]; omega), hv.2]
  · intro rc o hv
    unfold zz6_b3
    have h1 := hv.2
    rw [List.take_length, ← hv.1, List.take_length] at h1
    rw [cdf (by omega), zz6_a3, h1]

theorem toAlg_eq {a : AlT} (h : SmallA a) : zz7 a = some (a, ()) := by
  unfold zz7 zz7_s
  rw [toOpS_eq _ h.1 h.2]
  rfl

theorem true_LatticeOfRing (a : AlT) (hw : Wf (.pair (.pair I (.pair (.sl (.pair I (.pair (.sl I) .unit))) .unit)) .unit) (a, ())) : laws_FnExactLatticeOfRing a = some (true, ()) := by
  obtain ⟨v, hv, hv1, hv2⟩ := szAlg_eq a 1048576 hw.1 (by omega) (by omega)
  unfold laws_FnExactLatticeOfRing laws_FnExactLatticeOfRing_s
  rw [hv, Option.bind_some]
  by_cases h : v < 0
  · rw [cdt h]
  · have hs := hv2 (by omega)
    obtain ⟨r, h1, h2, h3, h4⟩ := latticeOfRing_eq a hs
    have hsum := sum_le h4
    have hsum2 : (r.1.1.map List.length).sum ≤ 100 := by omega
    have hr : SmallP r.1 := ⟨by omega, fun x hx => by have := h4 x hx; omega⟩
    have hsa : sumO (lensO a.2.1) ≤ 1099512676352 := by
      have hb : sumO (lensO a.2.1) ≤ (lensO a.2.1).length * 1048577 := sumO_bound (l := lensO a.2.1) (k := 1048576) fun n hn => by
        obtain ⟨o, ho, rfl⟩ := List.mem_map.1 hn
        exact hs.2 o ho
      have hl : (lensO a.2.1).length = a.2.1.length := List.length_map _
      have h1 := hs.1
      rw [hl] at hb
      omega
    simp only [cdf h, toAlg_eq hs, Option.bind_some, h1, h2, eqPoset_eq hr, eqAlg_self hs, markAlg_eq hs 1 (show (0 : Int) ≤ 1 by omega) (show (1 : Int) + (sumO (lensO a.2.1) : Nat) ≤ 9000000000000 by omega),
      markPoset_eq hr.1 1 (show (0 : Int) ≤ 1 by omega) (show (1 : Int) + ((r.1.1.map List.length).sum : Nat) ≤ 1099511627775 by omega), heldPoset_eq 1 (r.1.1.map List.length) (show (r.1.1.map List.length).length ≤ 1048576 by rw [List.length_map]; omega) (show (0 : Int) ≤ 1 by omega) (show (1 : Int) + ((r.1.1.map List.length).sum : Nat) ≤ 1099511627775 by omega)]
    simp
    repeat rw [cdf (by omega)]


end Go.Proofs.Ytiklgbjlggcejaa
