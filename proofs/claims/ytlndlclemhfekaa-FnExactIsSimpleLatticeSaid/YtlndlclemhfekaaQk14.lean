import Derived.Test.YtlndlclemhfekaaPTab
import Derived.Test.YtlndlclemhfekaaHk14
import Derived.KernelRfl
set_option linter.unusedVariables false
set_option linter.unusedSimpArgs false
namespace Go.Proofs.Ytlndlclemhfekaa
open Go Go.Gx Go.Proofs

theorem toIntS_l (N : Nat) (k : List Int → Option (List Int × Unit)) : ∀ (n : Nat) (a out : List Int) (i : Nat), a.length - i < n → i ≤ a.length → out.length = a.length → a.length ≤ 1099511627776 →
    zz3_l3 N k n a out i = k (out.take i ++ a.drop i)
  | 0, _, _, _, h, _, _, _ => by omega
  | n + 1, a, out, i, h, hi, ho, hb => by
    simp only [zz3_l3, zz3_b3]
    by_cases hlt : i < a.length
    · rw [cdt (by omega), atI_lt a i hlt, Option.bind_some, atI_lt out i (by omega), Option.bind_some, Int.toNat_natCast, List.getElem?_eq_getElem (by omega), Option.bind_some, wr (by omega) (by omega)]
      have := toIntS_l N k n a (out.set i a[i]) (i + 1) (by omega) (by omega) (by simpa using ho) hb
      rw [show ((i : Int) + 1) = ((i + 1 : Nat) : Int) by omega, this]
      congr 1
      rw [List.take_succ_eq_append_getElem (by simp; omega), List.take_set, List.set_eq_of_length_le (by simp [Nat.min_le_left]), List.append_assoc]
      congr 1
      rw [List.getElem_set_self, List.singleton_append, ← List.drop_eq_getElem_cons hlt]
    · rw [cdf (by omega)]
      have : i = a.length := by omega
      subst this
      rw [List.drop_length, List.append_nil, List.take_of_length_le (by omega)]

theorem toIntS_eq (a : List Int) (h : a.length ≤ 4294967296) : zz3 big a = some (a, ()) := by
  have hb := big_ge
  unfold zz3 zz3_s
  rw [mkI_nat _ _ h, Option.bind_some, Option.bind_some, cdt (by omega)]
  unfold zz3_F3
  have := toIntS_l big zz3_a3 big a (List.replicate a.length 0) 0 (by omega) (by omega) (by simp) (by omega)
  refine Eq.trans this ?_
  simp [zz3_a3]

theorem eqIntS_l (N : Nat) (k : Option (Bool × Unit)) : ∀ (n : Nat) (a b : List Int) (i : Nat), a.length - i < n → i ≤ a.length → b.length = a.length → a.length ≤ 1099511627776 →
    zz63_l4 N k n a b i = if a.drop i = b.drop i then k else some (false, ())
  | 0, _, _, _, h, _, _, _ => by omega
  | n + 1, a, b, i, h, hi, hl, hb => by
    simp only [zz63_l4, zz63_b4]
    by_cases hlt : i < a.length
    · rw [cdt (by omega), atI_lt a i hlt, Option.bind_some, atI_lt b i (by omega), Option.bind_some, wr (by omega) (by omega)]
      have := eqIntS_l N k n a b (i + 1) (by omega) (by omega) hl hb
      rw [show ((i : Int) + 1) = ((i + 1 : Nat) : Int) by omega, this]
      rw [List.drop_eq_getElem_cons hlt, List.drop_eq_getElem_cons (show i < b.length by omega)]
      by_cases hx : a[i] = b[i]
      · rw [cdf (by simpa using hx), hx]; simp only [List.cons.injEq, true_and]
      · rw [cdt hx, if_neg (fun e => hx (by simp only [List.cons.injEq] at e; exact e.1))]
    · rw [cdf (by omega), List.drop_eq_nil_of_le (by omega), List.drop_eq_nil_of_le (by omega)]
      simp

theorem eqIntS_eq (a b : List Int) (h : a.length ≤ 1099511627775) : zz63 big a b = some (decide (a = b), ()) := by
  have hb := big_ge
  unfold zz63 zz63_s
  by_cases hl : a.length = b.length
  · rw [cdf (by simp [hl])]
    unfold zz63_F4
    have := eqIntS_l big zz63_a4 big a b 0 (by omega) (by omega) (by omega) (by omega)
    rw [show (0 : Int) = ((0 : Nat) : Int) from rfl, this]
    simp only [List.drop_zero, zz63_a4]
    by_cases he : a = b <;> simp [he]
  · rw [cdt (by omega)]
    have : a ≠ b := by rintro rfl; exact hl rfl
    simp [this]

theorem l1In_eq (x a b : Int) : zz6 x a b = some (decide (a ≤ x ∧ x ≤ b), ()) := by
  unfold zz6 zz6_s
  by_cases h : a ≤ x <;> simp [h]

def marks : Int → Nat → List Int
  | _, 0 => []
  | k, n + 1 => k :: marks (k + 1) n

theorem marks_len : ∀ (k : Int) (n : Nat), (marks k n).length = n
  | _, 0 => rfl
  | k, n + 1 => by simp [marks, marks_len (k + 1) n]

theorem markIntS_l (N : Nat) (kk : List Int → Int → Option (Int × (List Int × Unit))) : ∀ (n : Nat) (a : List Int) (k : Int) (i : Nat), a.length - i < n → i ≤ a.length → a.length ≤ 1099511627776 → 0 ≤ k → k ≤ 1125899906842624 →
    k + (a.length - i : Nat) ≤ 1125899906842624 → zz66_l2 N kk n a k i = kk (a.take i ++ marks k (a.length - i)) (k + (a.length - i : Nat))
  | 0, _, _, _, h, _, _, _, _, _ => by omega
  | n + 1, a, k, i, h, hi, hb, hk0, hk, hk2 => by
    simp only [zz66_l2, zz66_b2]
    by_cases hlt : i < a.length
    · rw [cdt (by omega), atI_lt a i hlt, Option.bind_some, Int.toNat_natCast, List.getElem?_eq_getElem hlt, Option.bind_some, wr (by omega) (by omega), wr (by omega) (by omega)]
      have := markIntS_l N kk n (a.set i k) (k + 1) (i + 1) (by simp; omega) (by simp; omega) (by simpa using hb) (by omega) (by omega) (by simp; omega)
      rw [show ((i : Int) + 1) = ((i + 1 : Nat) : Int) by omega, this]
      rw [List.length_set, List.take_succ_eq_append_getElem (by simp; omega), List.take_set, List.set_eq_of_length_le (by simp [Nat.min_le_left]), List.append_assoc, List.getElem_set_self]
      have e : a.length - i = (a.length - (i + 1)) + 1 := by omega
      rw [e, marks]
      congr 1
      omega
    · rw [cdf (by omega)]
      have : i = a.length := by omega
      subst this
      simp [marks]

theorem markIntS_eq (a : List Int) (k : Int) (h : a.length ≤ 1099511627775) (hk : 0 ≤ k) (hk2 : k ≤ 1099511627776) : zz66 big a k = some (k + a.length, (marks k a.length, ())) := by
  have hb := big_ge
  unfold zz66 zz66_s zz66_F2
  have := markIntS_l big zz66_a2 big a k 0 (by omega) (by omega) (by omega) hk (by omega) (by omega)
  refine Eq.trans this ?_
  simp [zz66_a2]

theorem heldIntS_l (N : Nat) (kk : Int → Option (Int × Unit)) : ∀ (n : Nat) (a b : List Int) (k : Int) (d : Nat), d < n → a = b ++ marks k d → a.length ≤ 1099511627776 → 0 ≤ k → k + d ≤ 1125899906842624 →
    zz69_l2 N kk n a k b.length = kk (k + d)
  | 0, _, _, _, _, h, _, _, _, _ => by omega
  | n + 1, a, b, k, d, h, ha, hb, hk0, hk => by
    simp only [zz69_l2, zz69_b2]
    have hlen : a.length = b.length + d := by rw [ha]; simp [marks_len]
    cases d with
    | zero => rw [cdf (by omega)]; simp
    | succ d =>
      have hlt : b.length < a.length := by omega
      have hx : a[b.length] = k := by
        have : a[b.length]? = some k := by rw [ha]; simp [marks]
        rw [List.getElem?_eq_getElem hlt] at this
        simpa using this
      rw [cdt (by omega), atI_lt a b.length hlt, Option.bind_some, hx, cdf (by simp), wr (by omega) (by omega), wr (by omega) (by omega)]
      have := heldIntS_l N kk n a (b ++ [k]) (k + 1) d (by omega) (by rw [ha, marks, List.append_assoc]; rfl) hb (by omega) (by omega)
      rw [List.length_append, List.length_singleton] at this
      rw [show ((b.length : Int) + 1) = ((b.length + 1 : Nat) : Int) by omega, this]
      congr 1
      omega

theorem heldIntS_eq (k : Int) (d : Nat) (h : d ≤ 1099511627775) (hk : 0 ≤ k) (hk2 : k ≤ 1099511627776) : zz69 big (marks k d) k = some (k + d, ()) := by
  have hb := big_ge
  unfold zz69 zz69_s zz69_F2
  exact heldIntS_l big zz69_a2 big (marks k d) [] k d (by omega) rfl (by rw [marks_len]; omega) hk (by omega)

theorem clone_eq (w : List Int) (h : w.length ≤ 4294967296) : zz57 w = some (w, ()) := by
  unfold zz57 zz57_s
  rw [appI_ok (by simp; omega), Option.bind_some]
  simp

def subst (l : Int) (s : List Int) : List Int → List Int
  | [] => []
  | x :: xs => if x = l then s ++ subst l s xs else x :: subst l s xs

theorem eqIntSS_l (N : Nat) (k : Option (Bool × Unit)) : ∀ (n : Nat) (a b : List (List Int)) (i : Nat), a.length - i < n → i ≤ a.length → b.length = a.length → a.length ≤ 1099511627776 → (∀ x ∈ a, x.length ≤ 4294967296) →
    zz64_l4 N k n a b i = if a.drop i = b.drop i then k else some (false, ())
  | 0, _, _, _, h, _, _, _, _ => by omega
  | n + 1, a, b, i, h, hi, hl, hb, hx => by
    simp only [zz64_l4, zz64_b4]
    by_cases hlt : i < a.length
    · have hxx := hx _ (List.getElem_mem hlt)
      rw [cdt (by omega), atI_lt a i hlt, Option.bind_some, atI_lt b i (by omega), Option.bind_some, eqIntS_eq _ _ (by omega), Option.bind_some, wr (by omega) (by omega)]
      have := eqIntSS_l N k n a b (i + 1) (by omega) (by omega) hl hb hx
      rw [show ((i : Int) + 1) = ((i + 1 : Nat) : Int) by omega, this]
      rw [List.drop_eq_getElem_cons hlt, List.drop_eq_getElem_cons (show i < b.length by omega)]
      by_cases hx : a[i] = b[i]
      · rw [hx]; simp only [decide_true, Bool.not_true, cond_false, List.cons.injEq, true_and]
      · rw [decide_eq_false hx]; exact (if_neg (fun e => hx (List.cons.inj e).1)).symm
    · rw [cdf (by omega), List.drop_eq_nil_of_le (by omega), List.drop_eq_nil_of_le (by omega)]
      simp

theorem eqIntSS_eq (a b : List (List Int)) (h : a.length ≤ 1099511627775) (hx : ∀ x ∈ a, x.length ≤ 4294967296) : zz64 big a b = some (decide (a = b), ()) := by
  have hb := big_ge
  unfold zz64 zz64_s
  by_cases hl : a.length = b.length
  · rw [cdf (by simp [hl])]
    unfold zz64_F4
    have := eqIntSS_l big zz64_a4 big a b 0 (by omega) (by omega) (by omega) (by omega) hx
    refine Eq.trans this ?_
    simp only [List.drop_zero, zz64_a4]
    by_cases he : a = b <;> simp [he]
  · rw [cdt (by omega)]
    have : a ≠ b := by rintro rfl; exact hl rfl
    simp [this]

def marksS : Int → List Nat → List (List Int)
  | _, [] => []
  | k, n :: ns => marks k n :: marksS (k + n) ns

theorem marksS_len : ∀ (k : Int) (ns : List Nat), (marksS k ns).length = ns.length
  | _, [] => rfl
  | k, n :: ns => by simp [marksS, marksS_len _ ns]

theorem markIntSS_l (N : Nat) (kk : List (List Int) → Int → Option (Int × (List (List Int) × Unit))) : ∀ (n : Nat) (a : List (List Int)) (k : Int) (i : Nat), a.length - i < n → i ≤ a.length → a.length ≤ 1099511627776 → 0 ≤ k → k + ((a.drop i).map List.length).sum ≤ 1099511627775 →
    zz67_l2 N kk n a k i = kk (a.take i ++ marksS k ((a.drop i).map List.length)) (k + ((a.drop i).map List.length).sum)
  | 0, _, _, _, h, _, _, _, _ => by omega
  | n + 1, a, k, i, h, hi, hb, hk0, hk => by
    simp only [zz67_l2, zz67_b2]
    by_cases hlt : i < a.length
    · rw [List.drop_eq_getElem_cons hlt, List.map_cons, List.sum_cons] at hk
      rw [cdt (by omega), atI_lt a i hlt, Option.bind_some, Int.toNat_natCast, List.getElem?_eq_getElem hlt, Option.bind_some, Option.bind_some, markIntS_eq _ k (by omega) (by omega) (by omega), Option.bind_some, Option.bind_some, Option.bind_some, wr (n := (i : Int) + 1) (by omega) (by omega)]
      have e1 : (a.set i (marks k a[i].length)).drop (i + 1) = a.drop (i + 1) := by rw [List.drop_set, if_pos (by omega)]
      have := markIntSS_l N kk n (a.set i (marks k a[i].length)) (k + a[i].length) (i + 1) (by simp; omega) (by simp; omega) (by simpa using hb) (by omega) (by rw [e1]; omega)
      rw [show ((i : Int) + 1) = ((i + 1 : Nat) : Int) by omega, this, e1]
      rw [List.take_succ_eq_append_getElem (by simp; omega), List.take_set, List.set_eq_of_length_le (by simp [Nat.min_le_left]), List.append_assoc, List.getElem_set_self]
      rw [List.drop_eq_getElem_cons hlt, List.map_cons, List.sum_cons, marksS]
      congr 1
      omega
    · rw [cdf (by omega)]
      have : i = a.length := by omega
      subst this
      simp [marksS]

theorem markIntSS_eq (a : List (List Int)) (k : Int) (h : a.length ≤ 1099511627775) (hk : 0 ≤ k) (hk2 : k + (a.map List.length).sum ≤ 1099511627775) : zz67 big a k = some (k + (a.map List.length).sum, (marksS k (a.map List.length), ())) := by
  have hb := big_ge
  unfold zz67 zz67_s zz67_F2
  have := markIntSS_l big zz67_a2 big a k 0 (by omega) (by omega) (by omega) hk (by simpa using hk2)
  refine Eq.trans this ?_
  simp [zz67_a2]

theorem heldIntSS_l (N : Nat) (kk : Int → Option (Int × Unit)) : ∀ (n : Nat) (a b : List (List Int)) (k : Int) (ns : List Nat), ns.length < n → a = b ++ marksS k ns → a.length ≤ 1099511627776 → 0 ≤ k → k + ns.sum ≤ 1099511627775 →
    zz70_l2 N kk n a k b.length = kk (k + ns.sum)
  | 0, _, _, _, _, h, _, _, _, _ => by omega
  | n + 1, a, b, k, ns, h, ha, hb, hk0, hk => by
    simp only [zz70_l2, zz70_b2]
    have hlen : a.length = b.length + ns.length := by rw [ha]; simp [marksS_len]
    cases ns with
    | nil => rw [cdf (by simp at hlen; omega)]; simp
    | cons m ns =>
      simp only [List.length_cons] at hlen h
      simp only [List.sum_cons] at hk
      have hlt : b.length < a.length := by omega
      have hx : a[b.length] = marks k m := by
        have : a[b.length]? = some (marks k m) := by rw [ha]; simp [marksS]
        rw [List.getElem?_eq_getElem hlt] at this
        simpa using this
      rw [cdt (by omega), atI_lt a b.length hlt, Option.bind_some, hx, heldIntS_eq k m (by omega) hk0 (by omega), Option.bind_some, cdf (by omega), wr (by omega) (by omega)]
      have := heldIntSS_l N kk n a (b ++ [marks k m]) (k + m) ns (by omega) (by rw [ha, marksS, List.append_assoc]; rfl) hb (by omega) (by omega)
      rw [List.length_append, List.length_singleton] at this
      rw [show ((b.length : Int) + 1) = ((b.length + 1 : Nat) : Int) by omega, this, List.sum_cons]
      congr 1
      omega

theorem heldIntSS_eq (k : Int) (ns : List Nat) (h : ns.length ≤ 1099511627775) (hk : 0 ≤ k) (hk2 : k + ns.sum ≤ 1099511627775) : zz70 big (marksS k ns) k = some (k + ns.sum, ()) := by
  have hb := big_ge
  unfold zz70 zz70_s zz70_F2
  exact heldIntSS_l big zz70_a2 big (marksS k ns) [] k ns (by omega) rfl (by rw [marksS_len]; omega) hk hk2

theorem l1Own_eq (w : List Int) (h : w.length ≤ 4294967296) : zz21 w = some (w, ()) := by
  unfold zz21 zz21_s
  rw [appI_ok (by simp; omega), Option.bind_some]
  rfl

theorem markIntS_eq2 (a : List Int) (k : Int) (h : a.length ≤ 1099511627775) (hk : 0 ≤ k) (hk2 : k ≤ 10995116277760) : zz66 big a k = some (k + a.length, (marks k a.length, ())) := by
  have hb := big_ge
  unfold zz66 zz66_s zz66_F2
  have := markIntS_l big zz66_a2 big a k 0 (by omega) (by omega) (by omega) hk (by omega) (by omega)
  refine Eq.trans this ?_
  simp [zz66_a2]

def risingB : List Int → Bool
  | x :: y :: r => decide (x < y) && risingB (y :: r)
  | _ => true

def inB (n : Nat) (x : Int) : Bool := decide (0 ≤ x ∧ x < n)

def isSetB (n : Nat) (s : List Int) : Bool := s.all (inB n) && risingB s

theorem rising_step (l : List Int) (i : Nat) (h : i < l.length) (h1 : 1 ≤ i) : risingB (l.drop (i - 1)) = (decide (l[i - 1] < l[i]) && risingB (l.drop i)) := by
  rw [List.drop_eq_getElem_cons (show i - 1 < l.length by omega), show i - 1 + 1 = i by omega, List.drop_eq_getElem_cons h]
  rfl

theorem rising_end (l : List Int) (i : Nat) (h : l.length ≤ i) (h1 : 1 ≤ i) : risingB (l.drop (i - 1)) = true := by
  by_cases h2 : l.length = i
  · rw [List.drop_eq_getElem_cons (show i - 1 < l.length by omega), List.drop_eq_nil_of_le (by omega)]
    rfl
  · rw [List.drop_eq_nil_of_le (by omega)]
    rfl

theorem specRising_l (N : Nat) {m : Nat} : ∀ (n : Nat) (l : List Int) (i : Nat), l.length - i < n → i ≤ l.length → l.length ≤ 1099511627776 →
    zz7_l2 N zz7_a2 n l 0 ((m : Int) - 1) i = some ((l.drop i).all (inB m) && risingB (l.drop (i - 1)), ())
  | 0, _, _, h, _, _ => by omega
  | n + 1, l, i, h, hi, hb => by
    simp only [zz7_l2, zz7_b2]
    by_cases hlt : i < l.length
    · have e : decide (0 ≤ l[i] ∧ l[i] ≤ (m : Int) - 1) = inB m l[i] := by
        unfold inB; congr 1; exact propext ⟨fun h => ⟨h.1, by omega⟩, fun h => ⟨h.1, by omega⟩⟩
      rw [cdt (by omega), atI_lt l i hlt, Option.bind_some, l1In_eq, Option.bind_some, e, wr (n := (i : Int) + 1) (by omega) (by omega), wr (n := (i : Int) - 1) (by omega) (by omega)]
      rw [show ((i : Int) + 1) = ((i + 1 : Nat) : Int) by omega, specRising_l N n l (i + 1) (by omega) (by omega) hb]
      rw [show i + 1 - 1 = i by omega]
      cases hin : inB m l[i] with
      | false =>
        rw [List.drop_eq_getElem_cons hlt, List.all_cons, hin]
        rfl
      | true =>
        simp only [Bool.not_true, cond_false]
        by_cases h0 : 0 < i
        · rw [cdt (by omega), show ((i : Int) - 1) = ((i - 1 : Nat) : Int) by omega, atI_lt l (i - 1) (by omega), Option.bind_some, Option.bind_some, rising_step l i hlt h0]
          by_cases hle : l[i] ≤ l[i - 1]
          · rw [cdt hle, decide_eq_false (by omega)]
            simp
          · rw [cdf hle, decide_eq_true (show l[i - 1] < l[i] by omega), List.drop_eq_getElem_cons hlt, List.all_cons, hin]
            simp
        · rw [cdf (by omega)]
          have : i = 0 := by omega
          subst this
          rw [show (0 : Nat) - 1 = 0 from rfl, List.drop_eq_getElem_cons hlt, List.all_cons, hin]
          simp
    · rw [cdf (by omega), List.drop_eq_nil_of_le (by omega)]
      by_cases h1 : 1 ≤ i
      · rw [rising_end l i (by omega) h1]; rfl
      · have : l = [] := List.eq_nil_of_length_eq_zero (by omega)
        subst this
        simp [risingB, zz7_a2]

theorem inSize_l (N : Nat) {m : Nat} : ∀ (n : Nat) (l : List Int) (i : Nat), l.length - i < n → i ≤ l.length → l.length ≤ 1099511627776 →
    zz37_l2 N zz37_a2 n (m : Int) l (l.length : Int) i = some ((l.drop i).all (inB m), ())
  | 0, _, _, h, _, _ => by omega
  | n + 1, l, i, h, hi, hb => by
    simp only [zz37_l2, zz37_b2]
    by_cases hlt : i < l.length
    · rw [cdt (by omega), atI_lt l i hlt, Option.bind_some, wr (n := (i : Int) + 1) (by omega) (by omega)]
      rw [show ((i : Int) + 1) = ((i + 1 : Nat) : Int) by omega, inSize_l N n l (i + 1) (by omega) (by omega) hb]
      rw [List.drop_eq_getElem_cons hlt, List.all_cons]
      unfold inB
      by_cases h0 : l[i] < 0
      · rw [cdt h0, decide_eq_false (by omega)]; rfl
      · rw [cdf h0]
        by_cases h1 : (m : Int) ≤ l[i]
        · rw [cdt h1, decide_eq_false (by omega)]; rfl
        · rw [cdf h1, decide_eq_true (by omega)]; rfl
    · rw [cdf (by omega), List.drop_eq_nil_of_le (by omega)]
      rfl

theorem rises_l (N : Nat) : ∀ (n : Nat) (l : List Int) (i : Nat), l.length - i < n → 1 ≤ i → l.length ≤ 1099511627776 → i ≤ 1099511627777 →
    zz36_l2 N zz36_a2 n l i = some (risingB (l.drop (i - 1)), ())
  | 0, _, _, h, _, _, _ => by omega
  | n + 1, l, i, h, hi, hb, hi2 => by
    simp only [zz36_l2, zz36_b2]
    by_cases hlt : i < l.length
    · rw [cdt (by omega), wr (n := (i : Int) - 1) (by omega) (by omega), show ((i : Int) - 1) = ((i - 1 : Nat) : Int) by omega, atI_lt l (i - 1) (by omega), Option.bind_some, atI_lt l i hlt, Option.bind_some, wr (n := (i : Int) + 1) (by omega) (by omega)]
      rw [show ((i : Int) + 1) = ((i + 1 : Nat) : Int) by omega, rises_l N n l (i + 1) (by omega) (by omega) hb (by omega), rising_step l i hlt hi, show i + 1 - 1 = i by omega]
      by_cases hle : l[i] ≤ l[i - 1]
      · rw [cdt hle, decide_eq_false (by omega)]; rfl
      · rw [cdf hle, decide_eq_true (by omega)]; rfl
    · rw [cdf (by omega), rising_end l i (by omega) hi]
      rfl

theorem wr1 {i : Nat} (h : i ≤ 4611686018427387904) : IntKind.i64.wrap ((i : Int) + 1) = ((i + 1 : Nat) : Int) := by rw [wr (by omega) (by omega)]; omega

abbrev PT := List (List Int) × Unit

def pos (n : Nat) (le : Nat → Nat → Bool) : PT := (mkR n fun y => cs (fl n fun x => le x y), ())

def leP (p : PT) (x y : Nat) : Bool := decide ((x : Int) ∈ p.1.getD y [])

structure Ord (n : Nat) (le : Nat → Nat → Bool) : Prop where
  refl : ∀ x, x < n → le x x = true
  anti : ∀ x y, x < n → y < n → x ≠ y → le x y = true → le y x = false
  trans : ∀ x y z, x < n → y < n → z < n → le x y = true → le y z = true → le x z = true

structure Good (p : PT) : Prop where
  len : p.1.length ≤ 10
  rows : ∀ r ∈ p.1, isSetB p.1.length r = true
  ord : Ord p.1.length (leP p)

theorem l1Has_eq (l : List Int) (x : Int) (h : l.length ≤ 4294967296) : zz8 big l x = some (decide (x ∈ l), ()) := by
  unfold zz8 zz8_s
  refine zz8_h2 l.length (fun i => x ∉ l.take i) (by omega) ?_ ?_ 0 (by omega) (by simp)
  · intro rc i hi hv ih
    unfold zz8_b2
    rw [cdt (by omega), atI_lt l i hi, Option.bind_some]
    by_cases hx : l[i] = x
    · rw [cdt hx, decide_eq_true (hx ▸ List.getElem_mem hi)]
    · rw [cdf hx, wr1 (by omega)]
      refine ih fun h => ?_
      rw [List.take_succ_eq_append_getElem hi, List.mem_append, List.mem_singleton] at h
      exact h.elim hv fun e => hx e.symm
  · intro rc hv
    unfold zz8_b2
    rw [cdf (by omega), zz8_a2, decide_eq_false (by simpa using hv)]

theorem l1Has_cs (S : List Nat) (x : Nat) (h : S.length ≤ 4294967296) : zz8 big (cs S) (x : Int) = some (decide (x ∈ S), ()) := by
  rw [l1Has_eq _ _ (by simpa using h)]
  simp only [cs_mem]

theorem l5Within_eq (a b : List Int) (ha : a.length ≤ 4294967296) (hb : b.length ≤ 4294967296) : zz9 big a b = some (tv (∀ x ∈ a, x ∈ b), ()) := by
  unfold zz9 zz9_s
  refine zz9_h2 a.length (fun i => ∀ x ∈ a.take i, x ∈ b) (by omega) ?_ ?_ 0 (by omega) (by simp)
  · intro rc i hi hv ih
    unfold zz9_b2
    rw [cdt (by omega), atI_lt a i hi, Option.bind_some, l1Has_eq _ _ hb, Option.bind_some]
    by_cases hx : a[i] ∈ b
    · rw [decide_eq_true hx, wr1 (by omega)]
      exact ih ((all_take_succ hi).2 ⟨hv, hx⟩)
    · rw [decide_eq_false hx, tv_f fun h => hx (h _ (List.getElem_mem hi))]
      rfl
  · intro rc hv
    unfold zz9_b2
    rw [cdf (by omega), zz9_a2, tv_t (by simpa using hv)]

theorem specRising_eq (n : Nat) (s : List Int) (hn : n ≤ 1099511627776) (hs : s.length ≤ 1099511627775) : zz7 big s 0 ((n : Int) - 1) = some (isSetB n s, ()) := by
  have hb := big_ge
  unfold zz7 zz7_s zz7_F2
  have := specRising_l big (m := n) big s 0 (by omega) (by omega) (by omega)
  rw [show zz7_l2 big zz7_a2 big s 0 ((n : Int) - 1) 0 = _ from this]
  rfl

theorem inSize_eq (n : Nat) (s : List Int) (hs : s.length ≤ 1099511627775) : zz37 big s (n : Int) = some (s.all (inB n), ()) := by
  have hb := big_ge
  unfold zz37 zz37_s zz37_F2
  have h1 := inSize_l big (m := n) big s 0 (by omega) (by omega) (by omega)
  rw [show (0 : Int) = ((0 : Nat) : Int) from rfl, h1]
  rfl

theorem rises_eq (s : List Int) (hs : s.length ≤ 1099511627775) : zz36 big s = some (risingB s, ()) := by
  have hb := big_ge
  unfold zz36 zz36_s zz36_F2
  have h2 := rises_l big big s 1 (by omega) (by omega) (by omega) (by omega)
  rw [show (1 : Int) = ((1 : Nat) : Int) from rfl, h2]
  rfl

theorem rising_pair : ∀ {l : List Int}, risingB l = true → l.Pairwise (· < ·)
  | [], _ => List.Pairwise.nil
  | [x], _ => by simp
  | x :: y :: r, h => by
    simp only [risingB, Bool.and_eq_true, decide_eq_true_eq] at h
    have h2 := rising_pair h.2
    refine List.pairwise_cons.2 ⟨fun z hz => ?_, h2⟩
    rcases List.mem_cons.1 hz with rfl | hz
    · exact h.1
    · have := (List.pairwise_cons.1 h2).1 z hz
      omega

theorem pair_rising : ∀ {l : List Int}, l.Pairwise (· < ·) → risingB l = true
  | [], _ => rfl
  | [x], _ => rfl
  | x :: y :: r, h => by
    have h1 := List.pairwise_cons.1 h
    simp only [risingB, Bool.and_eq_true, decide_eq_true_eq]
    exact ⟨h1.1 y (by simp), pair_rising h1.2⟩

theorem pair_ext : ∀ {l m : List Int}, l.Pairwise (· < ·) → m.Pairwise (· < ·) → (∀ x, x ∈ l ↔ x ∈ m) → l = m
  | [], [], _, _, _ => rfl
  | [], y :: m, _, _, h => by have := (h y).2 (by simp); simp at this
  | x :: l, [], _, _, h => by have := (h x).1 (by simp); simp at this
  | x :: l, y :: m, h1, h2, h => by
    have p1 := List.pairwise_cons.1 h1
    have p2 := List.pairwise_cons.1 h2
    have e : x = y := by
      rcases List.mem_cons.1 ((h x).1 (by simp)) with e | hx
      · exact e
      · rcases List.mem_cons.1 ((h y).2 (by simp)) with e | hy
        · exact e.symm
        · have := p1.1 y hy
          have := p2.1 x hx
          omega
    subst e
    congr 1
    refine pair_ext p1.2 p2.2 fun z => ?_
    constructor
    · intro hz
      rcases List.mem_cons.1 ((h z).1 (List.mem_cons_of_mem _ hz)) with e | hz2
      · have := p1.1 z hz; omega
      · exact hz2
    · intro hz
      rcases List.mem_cons.1 ((h z).2 (List.mem_cons_of_mem _ hz)) with e | hz2
      · have := p2.1 z hz; omega
      · exact hz2

theorem fl_pair (n : Nat) (P : Nat → Bool) : (cs (fl n P)).Pairwise (· < ·) := by
  unfold cs fl
  rw [List.pairwise_map]
  refine List.Pairwise.filter _ ?_
  have := List.pairwise_lt_range (n := n)
  exact this.imp fun h => by omega

theorem setB_form {n : Nat} {l : List Int} (h : isSetB n l = true) : l = cs (fl n fun x => decide ((x : Int) ∈ l)) := by
  unfold isSetB at h
  rw [Bool.and_eq_true] at h
  refine pair_ext (rising_pair h.2) (fl_pair _ _) fun x => ?_
  constructor
  · intro hx
    have h1 := List.all_eq_true.1 h.1 x hx
    unfold inB at h1
    rw [decide_eq_true_eq] at h1
    have e : x = ((x.toNat : Nat) : Int) := by omega
    rw [e, cs_mem, fl_mem]
    refine ⟨by omega, decide_eq_true ?_⟩
    rw [← e]; exact hx
  · intro hx
    unfold cs at hx
    obtain ⟨y, hy, e⟩ := List.mem_map.1 hx
    have := (fl_mem.1 hy).2
    rw [decide_eq_true_eq] at this
    exact e ▸ this

theorem fl_setB (n : Nat) (P : Nat → Bool) : isSetB n (cs (fl n P)) = true := by
  unfold isSetB
  rw [Bool.and_eq_true]
  refine ⟨List.all_eq_true.2 fun x hx => ?_, pair_rising (fl_pair n P)⟩
  unfold cs at hx
  obtain ⟨y, hy, e⟩ := List.mem_map.1 hx
  have := (fl_mem.1 hy).1
  unfold inB
  exact decide_eq_true (by omega)

theorem pos_form {p : PT} (h : ∀ r ∈ p.1, isSetB p.1.length r = true) : p = pos p.1.length (leP p) := by
  unfold pos
  refine Prod.ext ?_ rfl
  refine eq_mkR rfl fun i hi => ?_
  refine (setB_form (h _ (List.getElem_mem hi))).trans ?_
  refine congrArg cs (fl_congr fun x hx => ?_)
  unfold leP
  simp [hi]

theorem pos_len (n : Nat) (le : Nat → Nat → Bool) : (pos n le).1.length = n := mkR_len n _

theorem pos_rows (n : Nat) (le : Nat → Nat → Bool) : ∀ r ∈ (pos n le).1, isSetB (pos n le).1.length r = true := by
  intro r hr
  rw [pos_len]
  obtain ⟨i, _, e⟩ := mkR_mem.1 hr
  exact e ▸ fl_setB _ _

theorem leP_pos {n : Nat} {le : Nat → Nat → Bool} {x y : Nat} (hx : x < n) (hy : y < n) : leP (pos n le) x y = le x y := by
  unfold leP pos
  simp only [List.getD_eq_getElem?_getD, get_mkR hy, Option.getD_some, cs_mem, fl_mem, hx, true_and, Bool.decide_eq_true]

theorem Ord.congr {n : Nat} {le le' : Nat → Nat → Bool} (e : ∀ x y, x < n → y < n → le x y = le' x y) (h : Ord n le) : Ord n le' where
  refl x hx := by rw [← e x x hx hx]; exact h.refl x hx
  anti x y hx hy hxy h1 := by rw [← e y x hy hx]; rw [← e x y hx hy] at h1; exact h.anti x y hx hy hxy h1
  trans x y z hx hy hz h1 h2 := by
    rw [← e x z hx hz]; rw [← e x y hx hy] at h1; rw [← e y z hy hz] at h2
    exact h.trans x y z hx hy hz h1 h2

theorem good_pos {n : Nat} {le : Nat → Nat → Bool} : Good (pos n le) ↔ n ≤ 10 ∧ Ord n le := by
  have e : ∀ x y, x < n → y < n → leP (pos n le) x y = le x y := fun x y hx hy => leP_pos hx hy
  constructor
  · intro h
    have h1 := h.len; have h2 := h.ord
    rw [pos_len] at h1 h2
    exact ⟨h1, h2.congr e⟩
  · intro h
    refine ⟨by rw [pos_len]; exact h.1, pos_rows n le, ?_⟩
    rw [pos_len]
    exact h.2.congr fun x y hx hy => (e x y hx hy).symm

theorem Good.form {p : PT} (h : Good p) : p = pos p.1.length (leP p) := pos_form h.rows

theorem newOrder_eq {n : Nat} (h : n ≤ 4294967296) : zz35 big (n : Int) = some (mkT n fun _ _ => false, ()) := by
  unfold zz35 zz35_s
  rw [mkI_mkR h, Option.bind_some, Option.bind_some, cdt (by omega), mkR_len]
  refine zz35_h3 n (fun i o => o = mkR n fun x => if x < i then mkR n fun _ => false else []) (by omega) ?_ ?_ 0 (by omega) _ (by simp)
  · intro rc i o hi hv ih
    unfold zz35_b3
    rw [cdt (by omega), mkI_mkR h, Option.bind_some, Option.bind_some, cdt (by omega), hv, atI_mkR hi, Option.bind_some, Int.toNat_natCast, get_mkR hi, Option.bind_some, wr1 (by omega)]
    refine ih _ ?_
    rw [mkR_set]
    refine mkR_congr fun x hx => ?_
    by_cases h1 : x = i
    · rw [if_pos h1, if_pos (by omega)]
    · rw [if_neg h1]
      by_cases h2 : x < i
      · rw [if_pos h2, if_pos (by omega)]
      · rw [if_neg h2, if_neg (by omega)]
  · intro rc o hv
    unfold zz35_b3
    rw [cdf (by omega), hv, zz35_a3]
    congr 2
    exact mkR_congr fun x hx => by rw [if_pos hx]

theorem isOrder_eq {n : Nat} {le : Nat → Nat → Bool} (hn : n ≤ 4294967296) : zz38 big (mkT n le) = some (tv (Ord n le), ()) := by
  unfold zz38 zz38_s
  rw [mkR_len]
  refine zz38_h2 n (fun i => ∀ x, x < i → le x x = true ∧ (∀ y, y < n → (x ≠ y → le x y = true → le y x = false) ∧ ∀ z, z < n → le x y = true → le y z = true → le x z = true)) (by omega) ?_ ?_ 0 (by omega) (by intro x hx; omega)
  · intro rc i hi hv ih
    unfold zz38_b2
    rw [cdt (by omega), atI_mkR hi, Option.bind_some, atI_mkR hi, Option.bind_some, mkR_len]
    cases h0 : le i i with
    | false =>
      rw [tv_f fun h => by rw [h.refl i hi] at h0; cases h0]
      rfl
    | true =>
      rw [Bool.not_true, cond_false]
      refine zz38_h7 n (fun j => ∀ y, y < j → (i ≠ y → le i y = true → le y i = false) ∧ ∀ z, z < n → le i y = true → le y z = true → le i z = true) (by omega) ?_ ?_ 0 (by omega) (by intro x hx; omega)
      · intro rc2 j hj hv2 ih2
        have inn : (i ≠ j → le i j = true → le j i = false) → zz38_F12 big rc2 (zz38_a7 rc) (mkT n le) (i : Int) (j : Int) (n : Int) (i : Int) (n : Int) (j : Int) (n : Int) ((0 : Nat) : Int) = some (tv (Ord n le), ()) := by
          intro hij
          refine zz38_h12 n (fun k => ∀ z, z < k → le i j = true → le j z = true → le i z = true) (by omega) ?_ ?_ 0 (by omega) (by intro x hx; omega)
          · intro rc3 k hk hv3 ih3
            unfold zz38_b12
            simp only [cdt (show (k : Int) < (n : Int) by omega), atI_mkR hi, atI_mkR hj, atI_mkR hk, Option.bind_some, wr1 (show k ≤ 4611686018427387904 by omega)]
            cases h1 : le i j with
            | false => exact ih3 (all_lt_succ.2 ⟨hv3, by intro h; rw [h1] at h; cases h⟩)
            | true =>
              cases h2 : le j k with
              | false => exact ih3 (all_lt_succ.2 ⟨hv3, by intro _ h; rw [h2] at h; cases h⟩)
              | true =>
                cases h3 : le i k with
                | false =>
                  rw [tv_f fun h => by rw [h.trans i j k hi hj hk h1 h2] at h3; cases h3]
                  rfl
                | true => exact ih3 (all_lt_succ.2 ⟨hv3, fun _ _ => h3⟩)
          · intro rc3 hv3
            unfold zz38_b12
            rw [cdf (by omega), zz38_a12, wr1 (by omega)]
            exact ih2 (all_lt_succ.2 ⟨hv2, hij, hv3⟩)
        unfold zz38_b7
        rw [cdt (by omega), atI_mkR hi, Option.bind_some, atI_mkR hj, Option.bind_some, atI_mkR hj, Option.bind_some, atI_mkR hi, Option.bind_some, mkR_len]
        by_cases hij : i = j
        · rw [cdf (by omega)]
          exact inn fun h => absurd hij h
        · rw [cdt (by omega)]
          cases h1 : le i j with
          | false => exact inn fun _ h => by rw [h1] at h; cases h
          | true =>
            cases h2 : le j i with
            | false => exact inn fun _ _ => h2
            | true =>
              rw [tv_f fun h => by rw [h.anti i j hi hj hij h1] at h2; cases h2]
              rfl
      · intro rc2 hv2
        unfold zz38_b7
        rw [cdf (by omega), zz38_a7, wr1 (by omega)]
        exact ih (all_lt_succ.2 ⟨hv, h0, hv2⟩)
  · intro rc hv
    unfold zz38_b2
    rw [cdf (by omega), zz38_a2, tv_t]
    exact ⟨fun x hx => (hv x hx).1, fun x y hx hy => ((hv x hx).2 y hy).1, fun x y z hx hy hz => ((hv x hx).2 y hy).2 z hz⟩

theorem mkT_set {α : Type} {n : Nat} {f : Nat → Nat → α} {x y : Nat} {v : α} : (mkT n f).set x ((mkR n (f x)).set y v) = mkT n fun a b => if a = x ∧ b = y then v else f a b := by
  rw [mkR_set]
  refine mkR_congr fun a ha => ?_
  by_cases h : a = x
  · subst h
    rw [if_pos rfl, mkR_set]
    exact mkR_congr fun b hb => by simp
  · rw [if_neg h]
    exact mkR_congr fun b hb => by simp [h]

theorem orderOf_eq (p : PT) (hl : p.1.length ≤ 10) (hx : ∀ r ∈ p.1, r.length ≤ 4294967296) :
    zz39 big p = some (@ite _ (∀ r ∈ p.1, isSetB p.1.length r = true) (Classical.propDecidable _) (mkT p.1.length (leP p), tv (Ord p.1.length (leP p)), ()) ([], false, ()), ()) := by
  unfold zz39 zz39_s
  generalize hn : p.1.length = n
  rw [cdf (by omega), newOrder_eq (by omega), Option.bind_some]
  refine zz39_h6 n (fun i o => (∀ j, j < i → ∀ (h : j < p.1.length), isSetB n p.1[j] = true) ∧ o = mkT n fun a b => decide (b < i) && leP p a b) (by omega) ?_ ?_ 0 (by omega) _ ⟨by intro j hj; omega, mkT_congr fun a b _ _ => by simp⟩
  · intro rc i o hi hv ih
    obtain ⟨hv1, hv2⟩ := hv
    unfold zz39_b6
    have hip : i < p.1.length := by omega
    have hrow := hx _ (List.getElem_mem hip)
    rw [cdt (by omega), atI_lt _ i hip, Option.bind_some, rises_eq _ (by omega), Option.bind_some]
    cases h1 : risingB p.1[i] with
    | false =>
      rw [if_neg fun h => by have := h _ (List.getElem_mem hip); unfold isSetB at this; rw [h1, Bool.and_false] at this; cases this]
      rfl
    | true =>
      rw [Bool.not_true, cond_false, inSize_eq n _ (by omega), Option.bind_some]
      cases h2 : p.1[i].all (inB n) with
      | false =>
        rw [if_neg fun h => by have := h _ (List.getElem_mem hip); unfold isSetB at this; rw [h2, Bool.false_and] at this; cases this]
        rfl
      | true =>
        rw [Bool.not_true, cond_false]
        have hset : isSetB n p.1[i] = true := by unfold isSetB; rw [h1, h2]; rfl
        have hle : ∀ a, leP p a i = decide ((a : Int) ∈ p.1[i]) := by intro a; unfold leP; simp [hip]
        have hform := setB_form hset
        have hS : ∀ a, a ∈ fl n (fun x => decide ((x : Int) ∈ p.1[i])) ↔ a < n ∧ leP p a i = true := by
          intro a; rw [fl_mem, hle]
        generalize fl n (fun x => decide ((x : Int) ∈ p.1[i])) = S at hform hS
        rw [hform, cs_len]
        refine zz39_h11 S.length (fun k o => o = mkT n fun a b => if b < i then leP p a b else decide (b = i ∧ a ∈ S.take k)) ?_ ?_ ?_ 0 (by omega) _ ?_
        · have := congrArg List.length hform
          rw [cs_len] at this
          have := hx _ (List.getElem_mem hip)
          omega
        · intro rc2 k o2 hk hv3 ih2
          have hkn : S[k] < n := ((hS _).1 (List.getElem_mem hk)).1
          have hkS : S.length ≤ 4294967296 := by have := congrArg List.length hform; rw [cs_len] at this; omega
          unfold zz39_b11
          simp only [cdt (show (k : Int) < (S.length : Int) by omega), atI_cs hk, Option.bind_some, hv3, atI_mkR hkn, Int.toNat_natCast, get_mkR hkn, atI_mkR hi, get_mkR hi, wr1 (show k ≤ 4611686018427387904 by omega)]
          refine ih2 _ ?_
          rw [mkT_set]
          refine mkT_congr fun a b _ _ => ?_
          by_cases hb : b < i
          · rw [if_pos hb, if_pos hb, if_neg (by omega)]
          · rw [if_neg hb, if_neg hb]
            simp only [mem_take_succ hk]
            by_cases hbi : b = i
            · by_cases ha : a = S[k]
              · simp [hbi, ha]
              · simp [hbi, ha]
            · simp [hbi]
        · intro rc2 o2 hv3
          unfold zz39_b11
          rw [cdf (by omega), zz39_a11, wr1 (by omega)]
          refine ih _ ⟨fun j hj hjp => ?_, ?_⟩
          · rcases Nat.lt_or_ge j i with h | h
            · exact hv1 j h hjp
            · have : j = i := by omega
              subst this; exact hset
          · rw [hv3]
            refine mkT_congr fun a b ha _ => ?_
            by_cases hb : b < i
            · rw [if_pos hb]; simp [show b < i + 1 by omega]
            · rw [if_neg hb, List.take_length]
              by_cases hbi : b = i
              · subst hbi
                rw [decide_eq_true (show b < b + 1 by omega), Bool.true_and]
                cases h : leP p a b with
                | true => exact decide_eq_true ⟨rfl, (hS a).2 ⟨ha, h⟩⟩
                | false => exact decide_eq_false fun h3 => by rw [((hS a).1 h3.2).2] at h; cases h
              · simp [hbi, show ¬ b < i + 1 by omega]
        · rw [hv2]
          refine mkT_congr fun a b _ _ => ?_
          by_cases hb : b < i
          · simp [hb]
          · simp [hb]
  · intro rc o hv
    obtain ⟨hv1, hv2⟩ := hv
    unfold zz39_b6
    have ho : o = mkT n (leP p) := by rw [hv2]; exact mkT_congr fun a b _ hb => by simp [hb]
    rw [cdf (by omega), zz39_a6, ho, isOrder_eq (by omega), Option.bind_some, if_pos]
    intro r hr
    obtain ⟨j, hj, e⟩ := List.getElem_of_mem hr
    exact e ▸ hv1 j (by omega) hj

theorem orderOf_bad (p : PT) (hl : ¬ p.1.length ≤ 10) : zz39 big p = some (([], false, ()), ()) := by
  unfold zz39 zz39_s
  rw [cdt (by omega)]

theorem orderOf_no (p : PT) (hx : ∀ r ∈ p.1, r.length ≤ 4294967296) (h : ¬ Good p) : ∃ T, zz39 big p = some ((T, false, ()), ()) := by
  by_cases hl : p.1.length ≤ 10
  · rw [orderOf_eq p hl hx]
    by_cases hr : ∀ r ∈ p.1, isSetB p.1.length r = true
    · rw [if_pos hr, tv_f fun ho => h ⟨hl, hr, ho⟩]
      exact ⟨_, rfl⟩
    · rw [if_neg hr]
      exact ⟨_, rfl⟩
  · exact ⟨_, orderOf_bad p hl⟩

theorem orderOf_pos {n : Nat} {le : Nat → Nat → Bool} (hn : n ≤ 10) (ho : Ord n le) : zz39 big (pos n le) = some ((mkT n le, true, ()), ()) := by
  have e : ∀ x y, x < n → y < n → leP (pos n le) x y = le x y := fun x y hx hy => leP_pos hx hy
  rw [orderOf_eq _ (by rw [pos_len]; exact hn) ?_, if_pos (pos_rows n le), pos_len, tv_t (ho.congr fun x y hx hy => (e x y hx hy).symm)]
  · congr 3
    exact mkT_congr fun x y hx hy => e x y hx hy
  · intro r hr
    obtain ⟨i, _, h⟩ := mkR_mem.1 hr
    rw [← h, cs_len]
    have := fl_len n fun x => le x i
    omega

theorem atI_pos {n x : Nat} {le : Nat → Nat → Bool} (hx : x < n) : atI (pos n le).1 (x : Int) = some (cs (fl n fun a => le a x)) := atI_mkR hx

theorem l23Leq_pos {n x y : Nat} {le : Nat → Nat → Bool} (hn : n ≤ 4294967296) (hx : x < n) (hy : y < n) : zz11 (pos n le) (x : Int) (y : Int) = some (le x y, ()) := by
  unfold zz11 zz11_s
  have := fl_len n fun a => le a y
  rw [atI_pos hy, Option.bind_some, l1Has_cs _ _ (by omega), Option.bind_some]
  congr 2
  rw [Bool.eq_iff_iff, decide_eq_true_eq, fl_mem]
  simp [hx]

theorem within_fl {n : Nat} {P Q : Nat → Bool} (hn : n ≤ 4294967296) : zz9 big (cs (fl n P)) (cs (fl n Q)) = some (tv (∀ x, x < n → P x = true → Q x = true), ()) := by
  have h1 := fl_len n P
  have h2 := fl_len n Q
  rw [l5Within_eq _ _ (by rw [cs_len]; omega) (by rw [cs_len]; omega)]
  congr 2
  refine tv_congr ⟨fun h x hx hp => ?_, fun h x hx => ?_⟩
  · exact (fl_mem.1 (cs_mem.1 (h _ (cs_mem.2 (fl_mem.2 ⟨hx, hp⟩))))).2
  · unfold cs at hx
    obtain ⟨y, hy, e⟩ := List.mem_map.1 hx
    have := fl_mem.1 hy
    rw [← e]
    exact cs_mem.2 (fl_mem.2 ⟨this.1, h y this.1 this.2⟩)

theorem specPoset_eq (p : PT) (hx : ∀ r ∈ p.1, r.length ≤ 4294967296) : zz10 big p = some (tv (Good p), ()) := by
  unfold zz10 zz10_s
  by_cases hl : p.1.length ≤ 10
  · generalize hn : p.1.length = n
    rw [cdf (by omega)]
    refine zz10_h5 n (fun i => ∀ j, j < i → ∀ (h : j < p.1.length), isSetB n p.1[j] = true ∧ leP p j j = true) (by omega) ?_ ?_ 0 (by omega) (by intro j hj; omega)
    · intro rc i hi hv ih
      have hip : i < p.1.length := by omega
      have hrow := hx _ (List.getElem_mem hip)
      have hle : ∀ a, leP p a i = decide ((a : Int) ∈ p.1[i]) := by intro a; unfold leP; simp [hip]
      unfold zz10_b5
      rw [cdt (by omega), atI_lt _ i hip, Option.bind_some, wr (by omega) (by omega), specRising_eq n _ (by omega) (by omega), Option.bind_some]
      cases h1 : isSetB n p.1[i] with
      | false =>
        rw [tv_f fun h => by have := h.rows _ (List.getElem_mem hip); rw [hn, h1] at this; cases this]
        rfl
      | true =>
        rw [Bool.not_true, cond_false, Option.bind_some, l1Has_eq _ _ hrow, Option.bind_some, ← hle]
        cases h2 : leP p i i with
        | false =>
          rw [tv_f fun h => by have := h.ord.refl i hip; rw [h2] at this; cases this]
          rfl
        | true =>
          rw [Bool.not_true, cond_false, wr1 (by omega)]
          refine ih fun j hj hjp => ?_
          rcases Nat.lt_or_ge j i with h | h
          · exact hv j h hjp
          · have : j = i := by omega
            subst this; exact ⟨h1, h2⟩
    · intro rc hv
      unfold zz10_b5
      rw [cdf (by omega), zz10_a5]
      have hrows : ∀ r ∈ p.1, isSetB p.1.length r = true := by
        intro r hr
        obtain ⟨j, hj, e⟩ := List.getElem_of_mem hr
        rw [hn]
        exact e ▸ (hv j (by omega) hj).1
      have hform := pos_form hrows
      have hrefl : ∀ x, x < n → leP p x x = true := fun x hxn => (hv x hxn (by omega)).2
      generalize leP p = le at hform hrefl
      rw [hn] at hform
      subst hform
      rw [tv_congr good_pos]
      refine zz10_h10 n (fun i => ∀ x, x < i → ∀ y, y < n → le y x = true → (y ≠ x → le x y = false) ∧ ∀ z, z < n → le z y = true → le z x = true) (by omega) ?_ ?_ 0 (by omega) (by intro j hj; omega)
      · intro rc2 i hi hv2 ih2
        unfold zz10_b10
        rw [cdt (by omega)]
        have hS : ∀ a, a ∈ fl n (fun a => le a i) ↔ a < n ∧ le a i = true := fun a => fl_mem
        have hSl := fl_len n fun a => le a i
        refine zz10_h13 (fl n fun a => le a i).length (fun k => ∀ y ∈ (fl n fun a => le a i).take k, (y ≠ i → le i y = false) ∧ ∀ z, z < n → le z y = true → le z i = true) (by omega) ?_ ?_ 0 (by omega) (by simp)
        · intro rc3 k hk hv3 ih3
          have hk2 := (hS _).1 (List.getElem_mem hk)
          have hk3 := atI_cs hk
          have hk4 : ∀ {P : Nat → Prop}, (∀ y ∈ (fl n fun a => le a i).take (k + 1), P y) ↔ _ := all_take_succ hk
          unfold zz10_b13
          generalize (fl n fun a => le a i)[k] = y at hk2 hk3 hk4
          have hkl := fl_len n fun a => le a y
          simp only [atI_pos hi, Option.bind_some, cs_len, cdt (show (k : Int) < ((fl n fun a => le a i).length : Int) by omega), hk3, atI_pos hk2.1, l1Has_cs (fl n fun a => le a y) i (by omega), within_fl (P := fun a => le a y) (Q := fun a => le a i) (show n ≤ 4294967296 by omega), wr1 (show k ≤ 4611686018427387904 by omega)]
          have e1 : decide (i ∈ fl n fun a => le a y) = le i y := by
            rw [Bool.eq_iff_iff, decide_eq_true_eq, fl_mem]; simp [hi]
          rw [e1]
          have key : (y ≠ i → le i y = false) → cond (!tv (∀ x, x < n → le x y = true → le x i = true)) (some (false, ())) (rc3 (pos n le) (n : Int) (i : Int) ((k + 1 : Nat) : Int)) = some (tv (n ≤ 10 ∧ Ord n le), ()) := by
            intro h1
            by_cases h2 : ∀ x, x < n → le x y = true → le x i = true
            · rw [tv_t h2]
              exact ih3 (hk4.2 ⟨hv3, h1, h2⟩)
            · rw [tv_f h2, tv_f fun h => h2 fun x hxn h3 => h.2.trans _ _ _ hxn hk2.1 hi h3 hk2.2]
              rfl
          by_cases h1 : y = i
          · rw [cdf (by omega)]
            exact key fun h => absurd h1 h
          · rw [cdt (by omega)]
            cases h2 : le i y with
            | true =>
              rw [tv_f (P := n ≤ 10 ∧ Ord n le) fun h => by rw [h.2.anti _ _ hk2.1 hi h1 hk2.2] at h2; cases h2]
              rfl
            | false =>
              rw [cond_false]
              exact key fun _ => h2
        · intro rc3 hv3
          rw [List.take_length] at hv3
          unfold zz10_b13
          rw [atI_pos hi, Option.bind_some, cs_len, cdf (by omega), zz10_a13, wr1 (by omega)]
          exact ih2 (all_lt_succ.2 ⟨hv2, fun y hy hyi => hv3 y ((hS y).2 ⟨hy, hyi⟩)⟩)
      · intro rc2 hv2
        unfold zz10_b10
        rw [cdf (by omega), zz10_a10, tv_t]
        refine ⟨by rw [pos_len] at hl; exact hl, fun x hx => hrefl x hx, fun x y hx hy hxy h => ((hv2 y hy x hx h).1 hxy), fun x y z hx hy hz h1 h2 => (hv2 z hz y hy h2).2 x hx h1⟩
  · rw [cdt (by omega), tv_f fun h => hl h.len]

abbrev du (le : Nat → Nat → Bool) : Nat → Nat → Bool := fun x y => le y x

def low (n : Nat) (le : Nat → Nat → Bool) (S : List Nat) : List Nat := fl n fun z => S.all fun s => le z s

def grt (le : Nat → Nat → Bool) (L : List Nat) : Int := match L.find? fun x => L.all fun y => le y x with
  | some x => (x : Int)
  | none => -1

def bnd (n : Nat) (le : Nat → Nat → Bool) (S : List Nat) : Int := grt le (low n le S)

structure IsGlb (n : Nat) (le : Nat → Nat → Bool) (S : List Nat) (m : Nat) : Prop where
  lt : m < n
  lo : ∀ s ∈ S, le m s = true
  gr : ∀ z, z < n → (∀ s ∈ S, le z s = true) → le z m = true

theorem low_mem {n : Nat} {le : Nat → Nat → Bool} {S : List Nat} {z : Nat} : z ∈ low n le S ↔ z < n ∧ ∀ s ∈ S, le z s = true := by
  unfold low
  rw [fl_mem, List.all_eq_true]

theorem glb_of_bnd {n : Nat} {le : Nat → Nat → Bool} {S : List Nat} (h : 0 ≤ bnd n le S) : IsGlb n le S (bnd n le S).toNat := by
  unfold bnd grt at *
  cases hf : (low n le S).find? fun x => (low n le S).all fun y => le y x with
  | none => rw [hf] at h; exact absurd h (by decide)
  | some x =>
    have h1 := List.find?_some hf
    have h2 := low_mem.1 (List.mem_of_find?_eq_some hf)
    simp only [Int.toNat_natCast]
    exact ⟨h2.1, h2.2, fun z hz hs => List.all_eq_true.1 h1 z (low_mem.2 ⟨hz, hs⟩)⟩

theorem glb_unique {n : Nat} {le : Nat → Nat → Bool} (ho : Ord n le) {S : List Nat} {m k : Nat} (h : IsGlb n le S m) (h2 : IsGlb n le S k) : m = k := by
  by_cases e : m = k
  · exact e
  · have h3 := h.gr k h2.lt h2.lo
    have h4 := h2.gr m h.lt h.lo
    have := ho.anti m k h.lt h2.lt e h4
    rw [this] at h3; cases h3

theorem bnd_of_glb {n : Nat} {le : Nat → Nat → Bool} (ho : Ord n le) {S : List Nat} {m : Nat} (h : IsGlb n le S m) : bnd n le S = (m : Int) := by
  have h0 : 0 ≤ bnd n le S := by
    unfold bnd grt
    cases hf : (low n le S).find? fun x => (low n le S).all fun y => le y x with
    | none =>
      have := List.find?_eq_none.1 hf m (low_mem.2 ⟨h.lt, h.lo⟩)
      exact absurd (List.all_eq_true.2 fun y hy => h.gr y (low_mem.1 hy).1 (low_mem.1 hy).2) this
    | some x => simp
  have := glb_unique ho (glb_of_bnd h0) h
  omega

theorem greatest_eq {n : Nat} {le : Nat → Nat → Bool} {L : List Nat} (hL : ∀ x ∈ L, x < n) (hl : L.length ≤ 4294967296) : zz40 big (mkT n le) (cs L) = some (grt le L, ()) := by
  unfold zz40 zz40_s
  rw [cs_len]
  refine zz40_h2 L.length (fun i => ∀ x ∈ L.take i, ¬ (L.all fun y => le y x) = true) (by omega) ?_ ?_ 0 (by omega) (by simp)
  · intro rc i hi hv ih
    have hx := hL _ (List.getElem_mem hi)
    have hh := @find_hit _ L (fun x => L.all fun y => le y x) i hi hv
    have hn := fun h => ih ((all_take_succ hi).2 ⟨hv, h⟩)
    unfold zz40_b2
    rw [cdt (by omega), atI_cs hi, Option.bind_some, cs_len]
    generalize L[i] = x at hx hh hn
    refine zz40_h6 L.length (fun k b => b = (L.take k).all fun y => le y x) (by omega) ?_ ?_ 0 (by omega) _ rfl
    · intro rc2 k b hk hb ih2
      have hy := hL _ (List.getElem_mem hk)
      have ht := @all_take _ L k hk fun y => le y x
      have ha := atI_cs hk
      unfold zz40_b6
      rw [cdt (by omega), ha, Option.bind_some, wr1 (by omega)]
      generalize L[k] = y at hy ht
      cases b with
      | false => exact ih2 _ (by rw [ht, ← hb]; rfl)
      | true =>
        rw [cond_true, atI_mkR hy, Option.bind_some, atI_mkR hx, Option.bind_some]
        exact ih2 _ (by rw [ht, ← hb]; rfl)
    · intro rc2 b hb
      rw [List.take_length] at hb
      unfold zz40_b6
      rw [cdf (by omega), zz40_a6, hb]
      cases h : L.all fun y => le y x with
      | true =>
        rw [cond_true]
        unfold grt
        rw [hh h]
      | false =>
        rw [cond_false, wr1 (by omega)]
        exact hn (by rw [h]; simp)
  · intro rc hv
    rw [List.take_length] at hv
    unfold zz40_b2
    rw [cdf (by omega), zz40_a2]
    unfold grt
    rw [List.find?_eq_none.2 hv]

theorem low2 {n : Nat} {le : Nat → Nat → Bool} {x y : Nat} : low n le [x, y] = fl n fun z => le z x && le z y := by
  unfold low
  congr 1; funext z; simp

theorem those_meet {n : Nat} {le : Nat → Nat → Bool} (hn : n ≤ 1048576) {x y : Nat} (hx : x < n) (hy : y < n) : zz42 big (mkT n le) (mkT n le, (x : Int), (y : Int), ()) = some (cs (low n le [x, y]), ()) := by
  unfold zz42 zz42_s
  rw [mkR_len, low2]
  refine zz42_h3 n (fun i l => l = cs (fl i fun z => le z x && le z y)) (by omega) ?_ ?_ 0 (by omega) _ rfl
  · intro rc i l hi hv ih
    have hl := fl_len i fun z => le z x && le z y
    unfold zz42_b3 zz41 zz41_s
    simp only [cdt (show (i : Int) < (n : Int) by omega), atI_mkR hi, atI_mkR hx, atI_mkR hy, Option.bind_some, wr1 (show i ≤ 4611686018427387904 by omega)]
    cases h1 : le i x with
    | false => exact ih _ (by rw [hv]; exact fl_f (P := fun z => le z x && le z y) (by simp [h1]))
    | true =>
      simp only [cond_true, Option.bind_some]
      cases h2 : le i y with
      | false => exact ih _ (by rw [hv]; exact fl_f (P := fun z => le z x && le z y) (by simp [h1, h2]))
      | true =>
        rw [cond_true, app1 (by rw [hv, cs_len]; omega), Option.bind_some]
        exact ih _ (by rw [hv]; exact fl_t (P := fun z => le z x && le z y) (by simp [h1, h2]))
  · intro rc l hv
    unfold zz42_b3
    rw [cdf (by omega), zz42_a3, hv]

theorem low_lt {n : Nat} {le : Nat → Nat → Bool} {S : List Nat} : ∀ x ∈ low n le S, x < n := fun x hx => (low_mem.1 hx).1

theorem low_len {n : Nat} {le : Nat → Nat → Bool} {S : List Nat} : (low n le S).length ≤ n := fl_len _ _

theorem meetTable_eq {n : Nat} {le : Nat → Nat → Bool} (hn : n ≤ 1048576) : zz43 big (mkT n le) = some (@ite _ (∀ x y, x < n → y < n → 0 ≤ bnd n le [x, y]) (Classical.propDecidable _) (mkT n fun x y => bnd n le [x, y], true, ()) ([], false, ()), ()) := by
  unfold zz43 zz43_s
  rw [mkR_len]
  refine zz43_h3 n (fun i t => t = (mkR i fun x => mkR n fun y => bnd n le [x, y]) ∧ ∀ x, x < i → ∀ y, y < n → 0 ≤ bnd n le [x, y]) (by omega) ?_ ?_ 0 (by omega) _ ⟨rfl, by intro x hx; omega⟩
  · intro rc i t hi hv ih
    unfold zz43_b3
    rw [cdt (by omega), mkR_len]
    refine zz43_h7 n (fun j r => r = (mkR j fun y => bnd n le [i, y]) ∧ ∀ y, y < j → 0 ≤ bnd n le [i, y]) (by omega) ?_ ?_ 0 (by omega) _ ⟨rfl, by intro x hx; omega⟩
    · intro rc2 j r hj hr ih2
      unfold zz43_b7
      rw [cdt (by omega), those_meet hn hi hj, Option.bind_some, greatest_eq low_lt (by have := @low_len n le [i, j]; omega), Option.bind_some]
      show cond (decide (bnd n le [i, j] < 0)) _ ((appI r [bnd n le [i, j]]).bind _) = _
      by_cases h : 0 ≤ bnd n le [i, j]
      · rw [cdf (by omega), app1 (by rw [hr.1, mkR_len]; omega), Option.bind_some, wr1 (by omega)]
        exact ih2 _ ⟨by rw [hr.1]; exact (mkR_succ j _).symm, all_lt_succ.2 ⟨hr.2, h⟩⟩
      · rw [cdt (by omega), if_neg fun h2 => h (h2 i j hi hj)]
    · intro rc2 r hr
      unfold zz43_b7
      rw [cdf (by omega), zz43_a7, app1 (by rw [hv.1, mkR_len]; omega), Option.bind_some, wr1 (by omega)]
      refine ih _ ⟨?_, all_lt_succ.2 ⟨hv.2, hr.2⟩⟩
      rw [hv.1, hr.1]
      exact (mkR_succ i fun x => mkR n fun y => bnd n le [x, y]).symm
  · intro rc t hv
    unfold zz43_b3
    rw [cdf (by omega), zz43_a3, if_pos fun x y hx hy => hv.2 x hx y hy, hv.1]

theorem dual_eq {n : Nat} {le : Nat → Nat → Bool} (hn : n ≤ 1048576) : zz44 big (mkT n le) = some (mkT n (du le), ()) := by
  unfold zz44 zz44_s
  rw [mkR_len, newOrder_eq (by omega), Option.bind_some]
  refine zz44_h3 n (fun i d => d = mkT n fun a b => decide (a < i) && le b a) (by omega) ?_ ?_ 0 (by omega) _ (mkT_congr fun a b _ _ => by simp)
  · intro rc i d hi hv ih
    unfold zz44_b3
    rw [cdt (by omega), mkR_len]
    refine zz44_h6 n (fun j d => d = mkT n fun a b => (decide (a < i) || decide (a = i) && decide (b < j)) && le b a) (by omega) ?_ ?_ 0 (by omega) _ (by rw [hv]; exact mkT_congr fun a b _ _ => by simp)
    · intro rc2 j d2 hj hv2 ih2
      unfold zz44_b6
      generalize hf : (fun a b => (decide (a < i) || decide (a = i) && decide (b < j)) && le b a) = f at hv2
      simp only [cdt (show (j : Int) < (n : Int) by omega), hv2, atI_mkR hi, get_mkR hi, Option.bind_some, atI_mkR hj, get_mkR hj, Int.toNat_natCast, wr1 (show j ≤ 4611686018427387904 by omega)]
      refine ih2 _ ?_
      rw [mkT_set, ← hf]
      refine mkT_congr fun a b _ _ => ?_
      by_cases h1 : a = i
      · subst h1
        by_cases h2 : b = j
        · subst h2; simp
        · rw [if_neg fun h => h2 h.2, show decide (b < j + 1) = decide (b < j) from decide_eq_decide.2 (by omega)]
      · rw [if_neg fun h => h1 h.1]; simp [h1]
    · intro rc2 d2 hv2
      unfold zz44_b6
      rw [cdf (by omega), zz44_a6, wr1 (by omega)]
      refine ih _ ?_
      rw [hv2]
      refine mkT_congr fun a b _ hb => ?_
      congr 1
      rw [decide_eq_true hb, Bool.and_true, ← Bool.decide_or]
      exact decide_eq_decide.2 (by omega)
  · intro rc d hv
    unfold zz44_b3
    rw [cdf (by omega), zz44_a3, hv]
    congr 2
    exact mkT_congr fun a b ha _ => by simp [ha]

structure Lat (n : Nat) (le : Nat → Nat → Bool) : Prop where
  ne : 0 < n
  meet : ∀ x y, x < n → y < n → 0 ≤ bnd n le [x, y]
  join : ∀ x y, x < n → y < n → 0 ≤ bnd n (du le) [x, y]

def mt (n : Nat) (le : Nat → Nat → Bool) (x y : Nat) : Nat := (bnd n le [x, y]).toNat

def gb (n : Nat) (le : Nat → Nat → Bool) (S : List Nat) : Nat := (bnd n le S).toNat

def lat (n : Nat) (le : Nat → Nat → Bool) : List (List Bool) × List (List Int) × List (List Int) × Unit :=
  (mkT n le, mkT n (fun x y => ((mt n le x y : Nat) : Int)), mkT n (fun x y => ((mt n (du le) x y : Nat) : Int)), ())

structure LatP (n : Nat) (le : Nat → Nat → Bool) : Prop where
  le10 : n ≤ 10
  ord : Ord n le
  lat : Lat n le

theorem latticeOf_pos {n : Nat} {le : Nat → Nat → Bool} (h : LatP n le) : zz45 (pos n le) = some ((some (lat n le), true, ()), ()) := by
  have h10 := h.le10
  have h0 := h.lat.ne
  unfold zz45 zz45_s
  simp only [orderOf_pos h.le10 h.ord, Option.bind_some, Bool.not_true, cond_false, mkR_len, cdf (show ¬ ((n : Int) = 0) by omega), meetTable_eq (le := le) (show n ≤ 1048576 by omega), dual_eq (le := le) (show n ≤ 1048576 by omega), meetTable_eq (le := du le) (show n ≤ 1048576 by omega)]
  rw [if_pos h.lat.meet, if_pos h.lat.join]
  simp only [cond_true]
  have e1 : (mkT n fun x y => bnd n le [x, y]) = mkT n fun x y => ((mt n le x y : Nat) : Int) := mkT_congr fun x y hx hy => by
    have := h.lat.meet x y hx hy
    unfold mt; omega
  have e2 : (mkT n fun x y => bnd n (du le) [x, y]) = mkT n fun x y => ((mt n (du le) x y : Nat) : Int) := mkT_congr fun x y hx hy => by
    have := h.lat.join x y hx hy
    unfold mt; omega
  rw [e1, e2]
  rfl

theorem latticeOf_no {p : PT} (hx : ∀ r ∈ p.1, r.length ≤ 4294967296) (h : ¬ (Good p ∧ Lat p.1.length (leP p))) : ∃ l, zz45 p = some ((l, false, ()), ()) := by
  by_cases hg : Good p
  · have hf := hg.form
    have ho := hg.ord
    have h10 := hg.len
    replace h : ¬ Lat p.1.length (leP p) := fun hl => h ⟨hg, hl⟩
    generalize p.1.length = n at *
    generalize leP p = le at *
    subst hf
    unfold zz45 zz45_s
    simp only [orderOf_pos h10 ho, Option.bind_some, Bool.not_true, cond_false, mkR_len, meetTable_eq (le := le) (show n ≤ 1048576 by omega), dual_eq (le := le) (show n ≤ 1048576 by omega), meetTable_eq (le := du le) (show n ≤ 1048576 by omega)]
    by_cases h0 : n = 0
    · rw [cdt (by omega)]
      exact ⟨_, rfl⟩
    · rw [cdf (by omega)]
      by_cases h1 : ∀ x y, x < n → y < n → 0 ≤ bnd n le [x, y]
      · rw [if_pos h1]
        by_cases h2 : ∀ x y, x < n → y < n → 0 ≤ bnd n (du le) [x, y]
        · exact absurd ⟨by omega, h1, h2⟩ h
        · rw [if_neg h2]
          exact ⟨_, rfl⟩
      · rw [if_neg h1]
        exact ⟨_, rfl⟩
  · obtain ⟨T, hT⟩ := orderOf_no p hx hg
    unfold zz45 zz45_s
    rw [hT, Option.bind_some]
    exact ⟨_, rfl⟩

theorem specDual_pos {n : Nat} {le : Nat → Nat → Bool} (hn : n ≤ 1048576) : zz12 big (pos n le) = some (pos n (du le), ()) := by
  unfold zz12 zz12_s
  refine zz12_h3 n (fun i o => o.1 = mkR i fun y => cs (fl n fun x => le y x)) (by omega) ?_ ?_ 0 (by omega) _ rfl
  · intro rc i o hi hv ih
    unfold zz12_b3
    rw [pos_len, cdt (by omega)]
    refine zz12_h7 n (fun j l => l = cs (fl j fun x => le i x)) (by omega) ?_ ?_ 0 (by omega) _ rfl
    · intro rc2 j l hj hl ih2
      have hlen := fl_len j fun x => le i x
      unfold zz12_b7
      rw [pos_len, cdt (by omega), l23Leq_pos (by omega) hi hj, Option.bind_some, wr1 (by omega)]
      cases h : le i j with
      | true =>
        rw [cond_true, app1 (by rw [hl, cs_len]; omega), Option.bind_some]
        exact ih2 _ (by rw [hl]; exact fl_t (P := fun x => le i x) h)
      | false => exact ih2 _ (by rw [hl]; exact fl_f (P := fun x => le i x) h)
    · intro rc2 l hl
      unfold zz12_b7
      rw [pos_len, cdf (by omega), zz12_a7, app1 (by rw [hv, mkR_len]; omega), Option.bind_some, wr1 (by omega)]
      exact ih _ (by rw [hl]; show o.1 ++ _ = _; rw [hv]; exact (mkR_succ i fun y => cs (fl n fun x => le y x)).symm)
  · intro rc o hv
    unfold zz12_b3
    rw [pos_len, cdf (by omega), zz12_a3]
    unfold pos
    congr 2
    exact Prod.ext hv rfl

theorem specBound_pos {n : Nat} {le : Nat → Nat → Bool} (hn : n ≤ 1048576) {S : List Nat} (hS : ∀ s ∈ S, s < n) (hSl : S.length ≤ 4294967296) : zz13 big (pos n le) (cs S) = some (bnd n le S, ()) := by
  unfold zz13 zz13_s
  refine zz13_h3 n (fun i l => l = cs (fl i fun z => S.all fun s => le z s)) (by omega) ?_ ?_ 0 (by omega) _ rfl
  · intro rc i l hi hv ih
    have hlen := fl_len i fun z => S.all fun s => le z s
    unfold zz13_b3
    rw [pos_len, cdt (by omega)]
    refine zz13_h7 S.length (fun k b => b = (S.take k).all fun s => le i s) (by omega) ?_ ?_ 0 (by omega) _ rfl
    · intro rc2 k b hk hb ih2
      have hs := hS _ (List.getElem_mem hk)
      have ht := @all_take _ S k hk fun s => le i s
      have ha := atI_cs hk
      unfold zz13_b7
      rw [cs_len, cdt (by omega), ha, Option.bind_some, wr1 (by omega)]
      generalize S[k] = s at hs ht
      rw [l23Leq_pos (by omega) hi hs, Option.bind_some]
      cases b with
      | true => exact ih2 _ (by rw [ht, ← hb]; rfl)
      | false => exact ih2 _ (by rw [ht, ← hb]; rfl)
    · intro rc2 b hb
      rw [List.take_length] at hb
      unfold zz13_b7
      rw [cs_len, cdf (by omega), zz13_a7, wr1 (by omega)]
      cases b with
      | true =>
        rw [cond_true, app1 (by rw [hv, cs_len]; omega), Option.bind_some]
        exact ih _ (by rw [hv]; exact fl_t (P := fun z => S.all fun s => le z s) hb.symm)
      | false => exact ih _ (by rw [hv]; exact fl_f (P := fun z => S.all fun s => le z s) hb.symm)
  · intro rc l hv
    unfold zz13_b3
    rw [pos_len, cdf (by omega), zz13_a3]
    replace hv : l = cs (low n le S) := hv
    rw [hv]
    have hll := @low_len n le S
    unfold bnd
    have hlt := @low_lt n le S
    have hfl : low n le S = fl n fun z => S.all fun s => le z s := rfl
    have hw : ∀ x, x < n → zz9 big (cs (low n le S)) (cs (fl n fun a => le a x)) = some ((low n le S).all fun y => le y x, ()) := by
      intro x hx
      rw [hfl, within_fl (by omega), ← hfl]
      congr 2
      exact tv_eq (by rw [List.all_eq_true]; exact ⟨fun h y hy hp => h y (fl_mem.2 ⟨hy, hp⟩), fun h y hy => h y (fl_mem.1 hy).1 (fl_mem.1 hy).2⟩)
    generalize low n le S = L at *
    refine zz13_h13 L.length (fun i => ∀ x ∈ L.take i, ¬ (L.all fun y => le y x) = true) (by omega) ?_ ?_ 0 (by omega) (by simp)
    · intro rc2 i hi hv2 ih2
      have hx := hlt _ (List.getElem_mem hi)
      have hh := @find_hit _ L (fun x => L.all fun y => le y x) i hi hv2
      have hn2 := fun h => ih2 ((all_take_succ hi).2 ⟨hv2, h⟩)
      have ha := atI_cs hi
      have hg := get_cs hi
      unfold zz13_b13
      simp only [cs_len, cdt (show (i : Int) < (L.length : Int) by omega), ha, Option.bind_some, Int.toNat_natCast, hg, wr1 (show i ≤ 4611686018427387904 by omega)]
      generalize L[i] = x at hx hh hn2
      rw [atI_pos hx, Option.bind_some, hw x hx, Option.bind_some]
      cases h : L.all fun y => le y x with
      | true =>
        rw [cond_true]
        unfold grt
        rw [hh h]
      | false =>
        rw [cond_false]
        exact hn2 (by rw [h]; simp)
    · intro rc2 hv2
      rw [List.take_length] at hv2
      unfold zz13_b13
      rw [cs_len, cdf (by omega), zz13_a13]
      unfold grt
      rw [List.find?_eq_none.2 hv2]

theorem bnd_swap {n : Nat} {le : Nat → Nat → Bool} (x y : Nat) : bnd n le [x, y] = bnd n le [y, x] := by
  unfold bnd
  congr 1
  unfold low
  congr 1; funext z; simp [Bool.and_comm]

theorem Ord.du {n : Nat} {le : Nat → Nat → Bool} (h : Ord n le) : Ord n (du le) where
  refl := h.refl
  anti x y hx hy hxy h1 := by
    have h3 : le y x = true := h1
    show le x y = false
    by_cases h2 : le x y = true
    · rw [h.anti x y hx hy hxy h2] at h3; cases h3
    · simpa using h2
  trans x y z hx hy hz h1 h2 := h.trans z y x hz hy hx h2 h1

theorem bnd_self {n : Nat} {le : Nat → Nat → Bool} (ho : Ord n le) {x : Nat} (hx : x < n) : bnd n le [x, x] = (x : Int) :=
  bnd_of_glb ho ⟨hx, by simp [ho.refl x hx], fun z _ h => h x (by simp)⟩

theorem spec24_eq (p : PT) (hx : ∀ r ∈ p.1, r.length ≤ 4294967296) : zz14 big p = some (tv (Good p ∧ Lat p.1.length (leP p)), ()) := by
  unfold zz14 zz14_s
  rw [specPoset_eq p hx, Option.bind_some]
  by_cases hg : Good p
  · rw [tv_t hg]
    have e : (Good p ∧ Lat p.1.length (leP p)) ↔ Lat p.1.length (leP p) := ⟨fun h => h.2, fun h => ⟨hg, h⟩⟩
    rw [tv_congr e, Bool.not_true, cond_false]
    have hf := hg.form
    have ho := hg.ord
    have h10 := hg.len
    clear e hg hx
    generalize p.1.length = n at *
    generalize leP p = le at *
    subst hf
    by_cases h0 : n = 0
    · rw [cdt (by omega), tv_f fun h => by have := h.ne; omega]
    · rw [cdf (by omega), specDual_pos (by omega), Option.bind_some]
      have key : ∀ x y, x < n → y < n → (0 ≤ bnd n le [x, y] ↔ 0 ≤ bnd n le [y, x]) := fun x y _ _ => by rw [bnd_swap]
      refine zz14_h5 n (fun i => ∀ x, x < i → ∀ y, y < x → 0 ≤ bnd n le [x, y] ∧ 0 ≤ bnd n (du le) [x, y]) (by omega) ?_ ?_ 0 (by omega) (by intro x hx; omega)
      · intro rc i hi hv ih
        unfold zz14_b5
        rw [pos_len, cdt (by omega)]
        refine zz14_h8 i (fun j => ∀ y, y < j → 0 ≤ bnd n le [i, y] ∧ 0 ≤ bnd n (du le) [i, y]) (by omega) ?_ ?_ 0 (by omega) (by intro x hx; omega)
        · intro rc2 j hj hv2 ih2
          unfold zz14_b8
          have e : ([(i : Int), (j : Int)] : List Int) = cs [i, j] := rfl
          have hS : ∀ s ∈ [i, j], s < n := by intro s hs; simp at hs; omega
          rw [cdt (by omega), e, specBound_pos (by omega) hS (by simp), Option.bind_some, specBound_pos (le := du le) (by omega) hS (by simp), Option.bind_some]
          by_cases h1 : 0 ≤ bnd n le [i, j]
          · rw [cdf (by omega)]
            by_cases h2 : 0 ≤ bnd n (du le) [i, j]
            · rw [cdf (by omega), wr1 (by omega)]
              exact ih2 (all_lt_succ.2 ⟨hv2, h1, h2⟩)
            · rw [cdt (by omega), tv_f fun h => h2 (h.join i j hi (by omega))]
          · rw [cdt (by omega), tv_f fun h => h1 (h.meet i j hi (by omega))]
        · intro rc2 hv2
          unfold zz14_b8
          rw [cdf (by omega), zz14_a8, wr1 (by omega)]
          exact ih (all_lt_succ.2 ⟨hv, hv2⟩)
      · intro rc hv
        unfold zz14_b5
        rw [pos_len, cdf (by omega), zz14_a5, tv_t]
        refine ⟨by omega, fun x y hx hy => ?_, fun x y hx hy => ?_⟩
        · rcases Nat.lt_trichotomy x y with h | h | h
          · rw [bnd_swap]; exact (hv y hy x h).1
          · subst h; rw [bnd_self ho hx]; omega
          · exact (hv x hx y h).1
        · rcases Nat.lt_trichotomy x y with h | h | h
          · rw [bnd_swap]; exact (hv y hy x h).2
          · subst h; rw [bnd_self ho.du hx]; omega
          · exact (hv x hx y h).2
  · rw [tv_f hg, tv_f fun h => hg h.1]
    rfl

theorem lat_cases {p : PT} (hx : ∀ r ∈ p.1, r.length ≤ 4294967296) : (∃ n le, p = pos n le ∧ LatP n le ∧ zz14 big p = some (true, ()) ∧ zz45 p = some ((some (lat n le), true, ()), ())) ∨
    (zz14 big p = some (false, ()) ∧ ∃ l, zz45 p = some ((l, false, ()), ())) := by
  by_cases h : Good p ∧ Lat p.1.length (leP p)
  · have hl : LatP p.1.length (leP p) := ⟨h.1.len, h.1.ord, h.2⟩
    refine .inl ⟨p.1.length, leP p, h.1.form, hl, by rw [spec24_eq p hx, tv_t h], ?_⟩
    have := latticeOf_pos hl
    rw [← h.1.form] at this
    exact this
  · exact .inr ⟨by rw [spec24_eq p hx, tv_f h], latticeOf_no hx h⟩

theorem szIntS_eq (a : List Int) (l : Int) (h : a.length ≤ 9223372036854775807) (h0 : 0 ≤ l) (h1 : l ≤ 1048576) : ∃ v, zz0 a l = some (v, ()) ∧ v ≤ 1048576 ∧ (0 ≤ v → a.length ≤ 1048576) := by
  unfold zz0 zz0_s
  rw [wr (by omega) (by omega)]
  by_cases hl : l - (a.length : Int) < 0
  · rw [cdt hl]
    exact ⟨_, rfl, by omega, by omega⟩
  · rw [cdf hl]
    exact ⟨_, rfl, by omega, by omega⟩

theorem szIntSS_l (N : Nat) : ∀ (n : Nat) (a : List (List Int)) (l : Int) (i : Nat), a.length - i < n → i ≤ a.length → a.length ≤ 1048576 → 0 ≤ l → l ≤ 1048576 → (∀ x ∈ a, x.length ≤ 9223372036854775807) →
    ∃ v, zz1_l5 N zz1_a5 n a l i = some (v, ()) ∧ v ≤ 1048576 ∧ (0 ≤ v → ∀ x ∈ a.drop i, x.length ≤ 1048576)
  | 0, _, _, _, h, _, _, _, _, _ => by omega
  | n + 1, a, l, i, h, hi, hb, h0, h1, hx => by
    simp only [zz1_l5, zz1_b5]
    by_cases hlt : i < a.length
    · obtain ⟨v, hv, hv1, hv2⟩ := szIntS_eq _ l (hx _ (List.getElem_mem hlt)) h0 h1
      rw [cdt (by omega), atI_lt a i hlt, Option.bind_some, hv, Option.bind_some, wr1 (by omega)]
      by_cases hl : v < 0
      · rw [cdt hl]
        exact ⟨_, rfl, by omega, by omega⟩
      · rw [cdf hl]
        obtain ⟨w, hw, hw1, hw2⟩ := szIntSS_l N n a v (i + 1) (by omega) (by omega) hb (by omega) hv1 hx
        refine ⟨w, hw, hw1, fun h x hx' => ?_⟩
        rw [List.drop_eq_getElem_cons hlt] at hx'
        rcases List.mem_cons.1 hx' with rfl | hx'
        · exact hv2 (by omega)
        · exact hw2 h x hx'
    · rw [cdf (by omega), List.drop_eq_nil_of_le (by omega)]
      exact ⟨_, rfl, h1, by simp⟩

theorem szIntSS_eq (a : List (List Int)) (l : Int) (ha : a.length ≤ 9223372036854775807) (hx : ∀ x ∈ a, x.length ≤ 9223372036854775807) (h0 : 0 ≤ l) (h1 : l ≤ 1048576) : ∃ v, zz1 big a l = some (v, ()) ∧ v ≤ 1048576 ∧ (0 ≤ v → a.length ≤ 1048576 ∧ ∀ x ∈ a, x.length ≤ 1048576) := by
  have hb := big_ge
  unfold zz1 zz1_s
  rw [wr (by omega) (by omega)]
  by_cases h : l - (a.length : Int) < 0
  · rw [cdt h]
    exact ⟨_, rfl, by omega, by omega⟩
  · rw [cdf h]
    unfold zz1_F5
    obtain ⟨v, hv, hv1, hv2⟩ := szIntSS_l big big a (l - a.length) 0 (by omega) (by omega) (by omega) (by omega) (by omega) hx
    exact ⟨v, hv, hv1, fun h0 => ⟨by omega, by simpa using hv2 h0⟩⟩

def SmallP (p : PT) : Prop := p.1.length ≤ 1048576 ∧ ∀ r ∈ p.1, r.length ≤ 1048576

theorem szPoset_eq (p : PT) (l : Int) (hw : Wf (.pair (.sl (.sl I)) .unit) p) (h0 : 0 ≤ l) (h1 : l ≤ 1048576) : ∃ v, zz2 p l = some (v, ()) ∧ v ≤ 1048576 ∧ (0 ≤ v → SmallP p) := by
  simp only [Wf, maxLen] at hw
  obtain ⟨v, hv, hv1, hv2⟩ := szIntSS_eq p.1 l hw.1.1 (fun x hx => (hw.1.2 x hx).1) h0 h1
  unfold zz2 zz2_s
  rw [hv, Option.bind_some]
  by_cases h : v < 0
  · rw [cdt h]
    exact ⟨_, rfl, by omega, by omega⟩
  · rw [cdf h]
    exact ⟨_, rfl, hv1, hv2⟩

theorem toIntSS_eq (a : List (List Int)) (h : a.length ≤ 4294967296) (hx : ∀ x ∈ a, x.length ≤ 4294967296) : zz4 big a = some (a, ()) := by
  unfold zz4 zz4_s
  rw [mkI_nat _ _ h, Option.bind_some, Option.bind_some, cdt (by omega)]
  refine zz4_h3 a.length (fun i o => o.length = a.length ∧ o.take i = a.take i) (by omega) ?_ ?_ 0 (by omega) _ ⟨by simp, rfl⟩
  · intro rc i o hi hv ih
    have ho : i < o.length := by omega
    unfold zz4_b3
    rw [cdt (by omega), atI_lt a i hi, Option.bind_some, toIntS_eq _ (hx _ (List.getElem_mem hi)), Option.bind_some, atI_lt o i ho, Option.bind_some, Int.toNat_natCast, List.getElem?_eq_getElem ho, Option.bind_some, wr1 (by omega)]
    refine ih _ ⟨by rw [List.length_set]; exact hv.1, ?_⟩
    rw [List.take_succ_eq_append_getElem (by rw [List.length_set]; exact ho), List.take_succ_eq_append_getElem hi, List.getElem_set_self, List.take_set, List.set_eq_of_length_le (by rw [List.length_take]; omega), hv.2]
  · intro rc o hv
    unfold zz4_b3
    have h1 := hv.2
    rw [List.take_length, ← hv.1, List.take_length] at h1
    rw [cdf (by omega), zz4_a3, h1]

theorem toPoset_eq {p : PT} (h : SmallP p) : zz5 p = some (p, ()) := by
  unfold zz5 zz5_s
  have := h.1
  rw [toIntSS_eq p.1 (by omega) fun x hx => by have := h.2 x hx; omega]
  rfl

theorem eqPoset_eq {p q : PT} (h : SmallP p) : zz65 p q = some (decide (p = q), ()) := by
  unfold zz65 zz65_s
  have := h.1
  rw [eqIntSS_eq p.1 q.1 (by omega) fun x hx => by have := h.2 x hx; omega]
  rw [Option.bind_some]
  by_cases e : p = q
  · subst e; simp
  · rw [decide_eq_false e, decide_eq_false fun h => e (Prod.ext h rfl)]; rfl

theorem SmallP.rows {p : PT} (h : SmallP p) : ∀ r ∈ p.1, r.length ≤ 4294967296 := fun r hr => by have := h.2 r hr; omega

def ls (le : Nat → Nat → Bool) (x y : Nat) : Bool := decide (x ≠ y) && le x y

def cov (n : Nat) (le : Nat → Nat → Bool) (x y : Nat) : Bool := ls le x y && (List.range n).all fun z => !(ls le x z && ls le z y)

theorem cov_t {n : Nat} {le : Nat → Nat → Bool} {x y : Nat} (h : ls le x y = true) (h2 : ∀ z, z < n → ¬ (ls le x z = true ∧ ls le z y = true)) : cov n le x y = true := by
  unfold cov
  rw [h, Bool.true_and, List.all_eq_true]
  intro z hz
  have := h2 z (List.mem_range.1 hz)
  cases h3 : ls le x z <;> cases h4 : ls le z y <;> simp_all

theorem cov_f {n : Nat} {le : Nat → Nat → Bool} {x y z : Nat} (hz : z < n) (h1 : ls le x z = true) (h2 : ls le z y = true) : cov n le x y = false := by
  unfold cov
  rw [Bool.and_eq_false_iff]
  refine .inr (List.all_eq_false.2 ⟨z, List.mem_range.2 hz, by simp [h1, h2]⟩)

theorem takes_cases {p : PT} (hx : ∀ r ∈ p.1, r.length ≤ 4294967296) : (∃ n le, p = pos n le ∧ LatP n le ∧ n ≤ 8 ∧ zz15 p = some (true, ()) ∧ zz46 p = some ((some (lat n le), true, ()), ())) ∨
    (zz15 p = some (false, ()) ∧ ∃ l, zz46 p = some ((l, false, ()), ())) := by
  unfold zz15 zz15_s zz46 zz46_s
  rcases lat_cases hx with ⟨n, le, e, hl, h1, h2⟩ | ⟨h1, l, h2⟩
  · rw [h1, h2, Option.bind_some, Option.bind_some]
    by_cases h8 : n ≤ 8
    · refine .inl ⟨n, le, e, hl, h8, ?_, ?_⟩
      · rw [e, pos_len, cdt (by omega)]
      · simp only [cond_true, Option.bind_some]
        unfold lat
        rw [mkR_len, decide_eq_true (by omega)]
    · refine .inr ⟨?_, some (lat n le), ?_⟩
      · rw [e, pos_len, cdf (by omega)]
      · simp only [cond_true, Option.bind_some]
        unfold lat
        rw [mkR_len, decide_eq_false (by omega)]
  · rw [h1, h2, Option.bind_some, Option.bind_some]
    refine .inr ⟨?_, l, rfl⟩
    by_cases h : (p.1.length : Int) ≤ 8
    · rw [cdt h]
    · rw [cdf h]

def irr (n : Nat) (le : Nat → Nat → Bool) (j : Nat) : Bool := decide ((fl n fun x => cov n le x j).length = 1)

def star (n : Nat) (le : Nat → Nat → Bool) (j : Nat) : Nat := (fl n fun x => cov n le x j).headD 0

theorem LatP.du {n : Nat} {le : Nat → Nat → Bool} (h : LatP n le) : LatP n (du le) := ⟨h.le10, Ord.du h.ord, h.lat.ne, h.lat.join, h.lat.meet⟩

theorem LatP.glb {n : Nat} {le : Nat → Nat → Bool} (h : LatP n le) {x y : Nat} (hx : x < n) (hy : y < n) : IsGlb n le [x, y] (mt n le x y) := glb_of_bnd (h.lat.meet x y hx hy)

theorem LatP.mlt {n : Nat} {le : Nat → Nat → Bool} (h : LatP n le) {x y : Nat} (hx : x < n) (hy : y < n) : mt n le x y < n := (h.glb hx hy).lt

theorem LatP.m1 {n : Nat} {le : Nat → Nat → Bool} (h : LatP n le) {x y : Nat} (hx : x < n) (hy : y < n) : le (mt n le x y) x = true := (h.glb hx hy).lo x (by simp)

theorem LatP.m2 {n : Nat} {le : Nat → Nat → Bool} (h : LatP n le) {x y : Nat} (hx : x < n) (hy : y < n) : le (mt n le x y) y = true := (h.glb hx hy).lo y (by simp)

theorem LatP.mg {n : Nat} {le : Nat → Nat → Bool} (h : LatP n le) {x y z : Nat} (hx : x < n) (hy : y < n) (hz : z < n) (h1 : le z x = true) (h2 : le z y = true) : le z (mt n le x y) = true :=
  (h.glb hx hy).gr z hz (by simp [h1, h2])

theorem LatP.tr {n : Nat} {le : Nat → Nat → Bool} (h : LatP n le) {x y z : Nat} (hx : x < n) (hy : y < n) (hz : z < n) (h1 : le x y = true) (h2 : le y z = true) : le x z = true := h.ord.trans x y z hx hy hz h1 h2

theorem LatP.as {n : Nat} {le : Nat → Nat → Bool} (h : LatP n le) {x y : Nat} (hx : x < n) (hy : y < n) (h1 : le x y = true) (h2 : le y x = true) : x = y := by
  by_cases e : x = y
  · exact e
  · rw [h.ord.anti x y hx hy e h1] at h2; cases h2

theorem topEx {n : Nat} {le : Nat → Nat → Bool} (h : LatP n le) : ∃ t, IsGlb n le [] t := by
  have key : ∀ i, i ≤ n → ∃ t, t < n ∧ ∀ x, x < i → le x t = true := by
    intro i
    induction i with
    | zero => exact fun _ => ⟨0, h.lat.ne, by intro x hx; omega⟩
    | succ i ih =>
      intro hi
      obtain ⟨t, ht, h1⟩ := ih (by omega)
      have hin : i < n := by omega
      refine ⟨mt n (Ytlndlclemhfekaa.du le) t i, h.du.mlt ht hin, all_lt_succ.2 ⟨fun x hx => ?_, h.du.m2 ht hin⟩⟩
      exact h.tr (by omega) ht (h.du.mlt ht hin) (h1 x hx) (h.du.m1 ht hin)
  obtain ⟨t, ht, h1⟩ := key n (by omega)
  exact ⟨t, ht, by simp, fun z hz _ => h1 z hz⟩

theorem glbEx {n : Nat} {le : Nat → Nat → Bool} (h : LatP n le) : ∀ S : List Nat, (∀ s ∈ S, s < n) → ∃ m, IsGlb n le S m
  | [], _ => topEx h
  | s :: S, hS => by
    obtain ⟨m, hm⟩ := glbEx h S fun x hx => hS x (by simp [hx])
    have hs := hS s (by simp)
    refine ⟨mt n le s m, h.mlt hs hm.lt, fun x hx => ?_, fun z hz hx => ?_⟩
    · rcases List.mem_cons.1 hx with rfl | hx'
      · exact h.m1 hs hm.lt
      · exact h.tr (h.mlt hs hm.lt) hm.lt (hS x hx) (h.m2 hs hm.lt) (hm.lo x hx')
    · exact h.mg hs hm.lt hz (hx s (by simp)) (hm.gr z hz fun x hx' => hx x (by simp [hx']))

theorem LatP.gbs {n : Nat} {le : Nat → Nat → Bool} (h : LatP n le) {S : List Nat} (hS : ∀ s ∈ S, s < n) : IsGlb n le S (gb n le S) := by
  obtain ⟨m, hm⟩ := glbEx h S hS
  unfold gb
  rw [bnd_of_glb h.ord hm]
  exact hm

theorem LatP.bnds {n : Nat} {le : Nat → Nat → Bool} (h : LatP n le) {S : List Nat} (hS : ∀ s ∈ S, s < n) : bnd n le S = ((gb n le S : Nat) : Int) := bnd_of_glb h.ord (h.gbs hS)

theorem lat1 (n : Nat) (le : Nat → Nat → Bool) : (lat n le).1 = mkT n le := rfl

theorem lat2 (n : Nat) (le : Nat → Nat → Bool) : (lat n le).2.1 = mkT n fun x y => ((mt n le x y : Nat) : Int) := rfl

theorem lat3 (n : Nat) (le : Nat → Nat → Bool) : (lat n le).2.2.1 = mkT n fun x y => ((mt n (du le) x y : Nat) : Int) := rfl

theorem specBoundL {n : Nat} {le : Nat → Nat → Bool} (h : LatP n le) {S : List Nat} (hS : ∀ s ∈ S, s < n) (hl : S.length ≤ 4294967296) : zz13 big (pos n le) (cs S) = some (((gb n le S : Nat) : Int), ()) := by
  have := h.le10
  rw [specBound_pos (by omega) hS hl, h.bnds hS]

theorem markIntSS_ok (a : List (List Int)) (k : Int) (h : a.length ≤ 1048576) (hx : ∀ x ∈ a, x.length ≤ 1048576) (hk : 0 ≤ k) (hk2 : k ≤ 9000000000000) : ∃ v j, zz67 big a k = some (j, (v, ())) ∧ 0 ≤ j ∧ j ≤ k + 1048576 * 1048576 := by
  unfold zz67 zz67_s
  suffices H : ∀ (n : Nat) (b : List (List Int)) (i : Nat) (k2 : Int), b.length = a.length → (∀ x ∈ b.drop i, x.length ≤ 1048576) → i ≤ a.length → a.length - i < n → 0 ≤ k2 → k2 ≤ k + i * 1048576 → ∃ v j, zz67_l2 big zz67_a2 n b k2 i = some (j, (v, ())) ∧ 0 ≤ j ∧ j ≤ k + 1048576 * 1048576 from by
    have := big_ge
    exact H big a 0 k rfl (by simpa using hx) (by omega) (by omega) hk (by omega)
  intro n
  induction n with
  | zero => intro b i k2 _ _ _ hn; omega
  | succ n ih =>
    intro b i k2 hbl hb hi hn hk0 hk3
    simp only [zz67_l2, zz67_b2]
    by_cases hlt : i < a.length
    · have hlb : i < b.length := by omega
      have hbi : b[i].length ≤ 1048576 := hb _ (by rw [List.drop_eq_getElem_cons hlb]; exact List.mem_cons_self)
      rw [cdt (by omega), atI_lt b i hlb, Option.bind_some, Int.toNat_natCast, List.getElem?_eq_getElem hlb, Option.bind_some, Option.bind_some, markIntS_eq2 _ k2 (by omega) hk0 (by omega), Option.bind_some, Option.bind_some, Option.bind_some, wr1 (by omega)]
      refine ih _ (i + 1) _ (by rw [List.length_set]; exact hbl) ?_ (by omega) (by omega) (by omega) (by omega)
      rw [List.drop_set, if_pos (by omega)]
      intro x hx'
      exact hb x (by rw [List.drop_eq_getElem_cons hlb]; exact List.mem_cons_of_mem _ hx')
    · rw [cdf (by omega)]
      exact ⟨b, k2, rfl, hk0, by omega⟩

theorem markPoset_ok {p : PT} (h : SmallP p) (k : Int) (hk : 0 ≤ k) (hk2 : k ≤ 1048576) : ∃ v j, zz68 p k = some (j, (v, ())) ∧ 0 ≤ j ∧ j ≤ 10995116277760 := by
  obtain ⟨v, j, h1, h2, h3⟩ := markIntSS_ok p.1 k h.1 h.2 hk (by omega)
  unfold zz68
  rw [h1]
  exact ⟨_, _, rfl, h2, by omega⟩

theorem jlt {n : Nat} {le : Nat → Nat → Bool} (h : LatP n le) {x y : Nat} (hx : x < n) (hy : y < n) : mt n (du le) x y < n := h.du.mlt hx hy

theorem j1 {n : Nat} {le : Nat → Nat → Bool} (h : LatP n le) {x y : Nat} (hx : x < n) (hy : y < n) : le x (mt n (du le) x y) = true := h.du.m1 hx hy

theorem j2 {n : Nat} {le : Nat → Nat → Bool} (h : LatP n le) {x y : Nat} (hx : x < n) (hy : y < n) : le y (mt n (du le) x y) = true := h.du.m2 hx hy

theorem jg {n : Nat} {le : Nat → Nat → Bool} (h : LatP n le) {x y z : Nat} (hx : x < n) (hy : y < n) (hz : z < n) (h1 : le x z = true) (h2 : le y z = true) : le (mt n (du le) x y) z = true := h.du.mg hx hy hz h1 h2

theorem l1Same_eq (a b : List Int) (h : a.length ≤ 4294967296) : zz29 big a b = some (decide (a = b), ()) := by
  unfold zz29 zz29_s
  by_cases hl : a.length = b.length
  · rw [cdf (by omega)]
    refine zz29_h4 a.length (fun i => a.take i = b.take i) (by omega) ?_ ?_ 0 (by omega) rfl
    · intro rc i hi hv ih
      have hi2 : i < b.length := by omega
      unfold zz29_b4
      rw [cdt (by omega), atI_lt a i hi, Option.bind_some, atI_lt b i hi2, Option.bind_some, wr1 (by omega)]
      by_cases e : a[i] = b[i]
      · rw [cdf (by omega)]
        exact ih (by rw [List.take_succ_eq_append_getElem hi, List.take_succ_eq_append_getElem hi2, hv, e])
      · rw [cdt e, decide_eq_false fun h => by subst h; exact e rfl]
    · intro rc hv
      rw [List.take_length, hl, List.take_length] at hv
      unfold zz29_b4
      rw [cdf (by omega), zz29_a4, decide_eq_true hv]
  · rw [cdt (by omega), decide_eq_false fun h => hl (by rw [h])]

abbrev P2 := Int × Int × Unit

def lx : List Int → List Int → Bool
  | a :: s, b :: t => if a ≠ b then decide (a < b) else lx s t
  | _, _ => false

theorem lx_drop {a b : List Int} {i : Nat} (h1 : i < a.length) (h2 : i < b.length) : lx (a.drop i) (b.drop i) = if a[i] ≠ b[i] then decide (a[i] < b[i]) else lx (a.drop (i + 1)) (b.drop (i + 1)) := by
  rw [List.drop_eq_getElem_cons h1, List.drop_eq_getElem_cons h2, lx]

theorem fl_lt {n : Nat} {P Q : Nat → Bool} (h : ∀ x, x < n → P x = true → Q x = true) {y : Nat} (hy : y < n) (h1 : Q y = true) (h2 : P y = false) : (fl n P).length < (fl n Q).length := by
  have hm : (fl n P).Sublist (fl n Q) := by
    have e : fl n P = (fl n Q).filter P := by
      unfold fl
      rw [List.filter_filter]
      refine List.filter_congr fun x hx => ?_
      have := h x (List.mem_range.1 hx)
      cases hp : P x with
      | true => simp [this hp]
      | false => simp
    rw [e]; exact List.filter_sublist
  refine Nat.lt_of_le_of_ne hm.length_le fun e => ?_
  have := hm.eq_of_length e
  have hq := fl_inj this hy
  rw [h1, h2] at hq
  exact absurd hq (by simp)

theorem cov_ls {n : Nat} {le : Nat → Nat → Bool} {x y : Nat} (h : cov n le x y = true) : ls le x y = true := by
  unfold cov at h
  exact (Bool.and_eq_true_iff.1 h).1

theorem sum_le {l : List (List Int)} {k : Nat} (h : ∀ x ∈ l, x.length ≤ k) : (l.map List.length).sum ≤ l.length * k := by
  induction l with
  | nil => simp
  | cons x l ih =>
    have h1 := ih fun y hy => h y (List.mem_cons_of_mem _ hy)
    have h2 := h x List.mem_cons_self
    rw [List.map_cons, List.sum_cons, List.length_cons, Nat.succ_mul]; omega

theorem mt_self {n : Nat} {le : Nat → Nat → Bool} (h : LatP n le) {x : Nat} (hx : x < n) : mt n le x x = x := by unfold mt; rw [bnd_self h.ord hx]; rfl

abbrev OpT := Int × List Int × Unit

abbrev AlT := Int × List OpT × Unit

def SmallA (a : AlT) : Prop := a.2.1.length ≤ 1048576 ∧ ∀ o ∈ a.2.1, o.2.1.length ≤ 1048576

def flt (n : Nat) (f : Nat → Nat → Int) : Nat → List Int
  | 0 => []
  | k + 1 => flt n f k ++ mkR n (f k)

theorem flt_len (n : Nat) (f : Nat → Nat → Int) : ∀ k, (flt n f k).length = k * n
  | 0 => by simp [flt]
  | k + 1 => by rw [flt, List.length_append, flt_len n f k, mkR_len, Nat.succ_mul]

theorem nn_le {i n : Nat} (h1 : i ≤ 10) (h2 : n ≤ 10) : i * n ≤ 100 := by
  have := Nat.mul_le_mul h1 h2; omega

theorem flatOp_eq {n : Nat} {f : Nat → Nat → Int} (h : n ≤ 10) : zz47 big (mkT n f) = some ((2, flt n f n, ()), ()) := by
  unfold zz47 zz47_s
  rw [mkR_len]
  refine zz47_h3 n (fun i o => o = ((2 : Int), flt n f i, ())) (by omega) ?_ ?_ 0 (by omega) _ rfl
  · intro rc i o hi hv ih
    have hl := flt_len n f i
    have hn := nn_le (i := i) (n := n) (by omega) h
    subst hv
    unfold zz47_b3
    have e : appI (flt n f i) (mkR n (f i)) = some (flt n f (i + 1)) := by
      unfold appI
      rw [if_pos (by rw [mkR_len]; omega)]; rfl
    simp only [cdt (show (i : Int) < (n : Int) by omega), atI_mkR hi, Option.bind_some, e, wr1 (show i ≤ 4611686018427387904 by omega)]
    exact ih _ rfl
  · intro rc o hv
    unfold zz47_b3
    rw [cdf (by omega), zz47_a3, hv]

abbrev meetF (n : Nat) (le : Nat → Nat → Bool) : Nat → Nat → Int := fun x y => ((mt n le x y : Nat) : Int)

def latAlg (n : Nat) (le : Nat → Nat → Bool) : AlT := ((n : Int), [(2, flt n (meetF n le) n, ()), (2, flt n (meetF n (du le)) n, ())], ())

theorem algebra_eq {n : Nat} {le : Nat → Nat → Bool} (h : LatP n le) : zz48 (some (lat n le)) = some (latAlg n le, ()) := by
  unfold zz48 zz48_s
  simp only [Option.bind_some, lat1, lat2, lat3, mkR_len, flatOp_eq h.le10]
  rfl

theorem specAlgebra_eq {n : Nat} {le : Nat → Nat → Bool} (h : LatP n le) : zz16 big (pos n le) = some (latAlg n le, ()) := by
  have h10 := h.le10
  unfold zz16 zz16_s
  rw [specDual_pos (by omega), Option.bind_some, pos_len]
  refine zz16_h5 n (fun i a b => a = ((2 : Int), flt n (meetF n le) i, ()) ∧ b = ((2 : Int), flt n (meetF n (du le)) i, ())) (by omega) ?_ ?_ 0 (by omega) _ _ ⟨rfl, rfl⟩
  · intro rc i a b hi hv ih
    obtain ⟨e1, e2⟩ := hv
    subst e1; subst e2
    have hl := flt_len n (meetF n le) i
    have hl2 := flt_len n (meetF n (du le)) i
    have hn := nn_le (i := i) (n := n) (by omega) h10
    unfold zz16_b5
    rw [cdt (by omega)]
    refine zz16_h8 n (fun j a b => a = ((2 : Int), flt n (meetF n le) i ++ mkR j (meetF n le i), ()) ∧ b = ((2 : Int), flt n (meetF n (du le)) i ++ mkR j (meetF n (du le) i), ())) (by omega) ?_ ?_ 0 (by omega) _ _ ⟨by rw [mkR_zero, List.append_nil], by rw [mkR_zero, List.append_nil]⟩
    · intro rc2 j a b hj hv2 ih2
      obtain ⟨e1, e2⟩ := hv2
      subst e1; subst e2
      have b1 : zz13 big (pos n le) [(i : Int), (j : Int)] = some (((mt n le i j : Nat) : Int), ()) := specBoundL h (S := [i, j]) (by intro s hs; simp at hs; omega) (by simp)
      have b2 : zz13 big (pos n (du le)) [(i : Int), (j : Int)] = some (((mt n (du le) i j : Nat) : Int), ()) := specBoundL h.du (S := [i, j]) (by intro s hs; simp at hs; omega) (by simp)
      unfold zz16_b8
      simp only [cdt (show (j : Int) < (n : Int) by omega), b1, b2, Option.bind_some]
      rw [app1 (by rw [List.length_append, mkR_len]; omega), Option.bind_some, app1 (by rw [List.length_append, mkR_len]; omega), Option.bind_some, wr1 (by omega)]
      exact ih2 _ _ ⟨by rw [mkR_succ, List.append_assoc], by rw [mkR_succ, List.append_assoc]⟩
    · intro rc2 a b hv2
      obtain ⟨e1, e2⟩ := hv2
      unfold zz16_b8
      rw [cdf (by omega), zz16_a8, wr1 (by omega)]
      exact ih _ _ ⟨e1, e2⟩
  · intro rc a b hv
    obtain ⟨e1, e2⟩ := hv
    unfold zz16_b5
    rw [cdf (by omega), zz16_a5, e1, e2]
    rfl

structure Pt (n : Nat) (P : Nat → Nat) : Prop where
  lo : ∀ x, x < n → P x ≤ x
  id : ∀ x, x < n → P (P x) = P x

theorem Pt.lt {n : Nat} {P : Nat → Nat} (h : Pt n P) {x : Nat} (hx : x < n) : P x < n := Nat.lt_of_le_of_lt (h.lo x hx) hx

def ptL (n : Nat) (P : Nat → Nat) : List Int := mkR n fun x => ((P x : Nat) : Int)

theorem ptL_len (n : Nat) (P : Nat → Nat) : (ptL n P).length = n := mkR_len _ _

def Lep (n : Nat) (P C : Nat → Nat) : Prop := ∀ x, x < n → C (P x) = C x

def uni (P : Nat → Nat) (x y z : Nat) : Nat := if P z = max (P x) (P y) then min (P x) (P y) else P z

def cls (n : Nat) (P : Nat → Nat) : Nat := (fl n fun x => decide (P x = x)).length

theorem Lep.refl {n : Nat} {P : Nat → Nat} (h : Pt n P) : Lep n P P := h.id

theorem Lep.trans {n : Nat} {P Q C : Nat → Nat} (h : Pt n P) (h1 : Lep n P Q) (h2 : Lep n Q C) : Lep n P C := fun x hx => by
  have e1 := h1 x hx
  have e2 := h2 (P x) (h.lt hx)
  have e3 := h2 x hx
  rw [← e2, e1, e3]

theorem Lep.eq {n : Nat} {P Q : Nat → Nat} (h : Pt n P) (h' : Pt n Q) (h1 : Lep n P Q) (h2 : Lep n Q P) {x : Nat} (hx : x < n) : P x = Q x := by
  have a1 := h1 x hx
  have a2 := h2 x hx
  have b1 := h'.lo (P x) (h.lt hx)
  have b2 := h.lo (Q x) (h'.lt hx)
  omega

theorem Lep.ker {n : Nat} {P C : Nat → Nat} (h : Lep n P C) {x y : Nat} (hx : x < n) (hy : y < n) (e : P x = P y) : C x = C y := by
  rw [← h x hx, ← h y hy, e]

theorem uni_pt {n : Nat} {P : Nat → Nat} (h : Pt n P) {x y : Nat} (hx : x < n) (hy : y < n) : Pt n (uni P x y) where
  lo := fun z hz => by
    have := h.lo z hz
    unfold uni; split <;> omega
  id := fun z hz => by
    have e1 := h.id x hx
    have e2 := h.id y hy
    have e3 := h.id z hz
    unfold uni
    by_cases c : P z = max (P x) (P y)
    · rw [if_pos c]
      rcases Nat.le_total (P x) (P y) with hl | hl
      · rw [Nat.min_eq_left hl, Nat.max_eq_right hl, e1]
        split <;> omega
      · rw [Nat.min_eq_right hl, Nat.max_eq_left hl, e2]
        split <;> omega
    · rw [if_neg c, e3, if_neg c]

theorem uni_le {n : Nat} {P C : Nat → Nat} (hp : Pt n P) (h : Lep n P C) {x y : Nat} (hx : x < n) (hy : y < n) (e : C x = C y) : Lep n (uni P x y) C := fun z hz => by
  have e1 := h x hx
  have e2 := h y hy
  have e3 := h z hz
  unfold uni
  by_cases c : P z = max (P x) (P y)
  · rw [if_pos c]
    rcases Nat.le_total (P x) (P y) with hl | hl
    · rw [Nat.max_eq_right hl] at c
      rw [Nat.min_eq_left hl, e1, ← e3, c, e2, e]
    · rw [Nat.max_eq_left hl] at c
      rw [Nat.min_eq_right hl, e2, ← e3, c, e1, e]
  · rw [if_neg c, e3]

theorem le_uni {n : Nat} {P : Nat → Nat} (hp : Pt n P) (x y : Nat) : Lep n P (uni P x y) := fun z hz => by
  unfold uni; rw [hp.id z hz]

theorem uni_eq (P : Nat → Nat) (x y : Nat) : uni P x y x = uni P x y y := by
  unfold uni
  rcases Nat.le_total (P x) (P y) with hl | hl
  · rw [Nat.min_eq_left hl, Nat.max_eq_right hl]
    split <;> simp_all
  · rw [Nat.min_eq_right hl, Nat.max_eq_left hl]
    split <;> simp_all

theorem uni_same {P : Nat → Nat} {x y : Nat} (e : P x = P y) (z : Nat) : uni P x y z = P z := by
  unfold uni; rw [e, Nat.max_self, Nat.min_self]; split <;> simp_all

theorem cls_lt {n : Nat} {P Q : Nat → Nat} (h : Pt n P) (h' : Pt n Q) (hl : Lep n P Q) {x : Nat} (hx : x < n) (hne : Q x ≠ P x) : cls n Q < cls n P := by
  refine fl_lt (fun z hz e => ?_) (h.lt hx) (decide_eq_true (h.id x hx)) (decide_eq_false fun e => hne ?_)
  · have e := of_decide_eq_true e
    have a1 := hl z hz
    have a2 := h.lo z hz
    have a3 := h'.lo (P z) (h.lt hz)
    exact decide_eq_true (by omega)
  · rw [← hl x hx, e]

theorem cls_le {n : Nat} (P : Nat → Nat) : cls n P ≤ n := fl_len _ _

theorem cls_congr {n : Nat} {P Q : Nat → Nat} (e : ∀ x, x < n → P x = Q x) : cls n P = cls n Q := by
  unfold cls; rw [fl_congr fun x hx => by rw [e x hx]]

theorem ptL_congr {n : Nat} {P Q : Nat → Nat} (e : ∀ x, x < n → P x = Q x) : ptL n P = ptL n Q := mkR_congr fun x hx => by rw [e x hx]

theorem unite_eq {n : Nat} {P : Nat → Nat} {x y : Nat} (hn : n ≤ 1048576) (hx : x < n) (hy : y < n) : zz53 big (ptL n P) (x : Int) (y : Int) = some (decide (P x ≠ P y), (ptL n (uni P x y), ())) := by
  unfold zz53 zz53_s
  have g : ∀ z, z < n → atI (ptL n P) (z : Int) = some ((P z : Nat) : Int) := fun z hz => atI_mkR hz
  have g2 : ∀ z, z < n → (ptL n P)[z]? = some ((P z : Nat) : Int) := fun z hz => get_mkR hz
  simp only [g x hx, g y hy, Int.toNat_natCast, g2 x hx, g2 y hy, Option.bind_some, ptL_len]
  by_cases e : P x = P y
  · rw [cdt (congrArg Nat.cast e), decide_eq_false (by simpa using e), ptL_congr fun z _ => uni_same e z]
  · rw [cdf (show ¬ ((P x : Nat) : Int) = ((P y : Nat) : Int) by omega), show decide (P x ≠ P y) = true from decide_eq_true e]
    have key : ∀ lo hi : Nat, lo = min (P x) (P y) → hi = max (P x) (P y) → zz53_F7 big (ptL n P) (lo : Int) (hi : Int) (n : Int) 0 = some (true, (ptL n (uni P x y), ())) := by
      intro lo hi e1 e2
      have hlh : lo ≠ hi := by omega
      refine zz53_h7 n (fun i q => q = mkR n fun z => ((if z < i then uni P x y z else P z : Nat) : Int)) (by omega) ?_ ?_ 0 (by omega) _ (mkR_congr fun z _ => by rw [if_neg (by omega)])
      · intro rc i q hi' hq ih
        subst hq
        unfold zz53_b7
        simp only [cdt (show (i : Int) < (n : Int) by omega), Int.toNat_natCast, atI_mkR hi', get_mkR hi', Option.bind_some, wr1 (show i ≤ 4611686018427387904 by omega), Nat.lt_irrefl, if_false]
        by_cases c : P i = hi
        · rw [cdt (congrArg Nat.cast c)]
          refine ih _ ?_
          rw [mkR_set]
          refine mkR_congr fun z hz => ?_
          by_cases ez : z = i
          · subst ez
            rw [if_pos rfl, if_pos (by omega)]
            unfold uni
            rw [if_pos (by omega), e1]
          · rw [if_neg ez]
            by_cases lt : z < i
            · rw [if_pos lt, if_pos (by omega)]
            · rw [if_neg lt, if_neg (by omega)]
        · rw [cdf (show ¬ ((P i : Nat) : Int) = (hi : Int) by omega)]
          refine ih _ (mkR_congr fun z hz => ?_)
          by_cases ez : z = i
          · subst ez
            rw [if_neg (by omega), if_pos (by omega)]
            unfold uni
            rw [if_neg (by omega)]
          · by_cases lt : z < i
            · rw [if_pos lt, if_pos (by omega)]
            · rw [if_neg lt, if_neg (by omega)]
      · intro rc q hq
        subst hq
        unfold zz53_b7
        rw [cdf (by omega), zz53_a7]
        rw [show (mkR n fun z => ((if z < n then uni P x y z else P z : Nat) : Int)) = ptL n (uni P x y) from mkR_congr fun z hz => by rw [if_pos hz]]
    by_cases c : P y < P x
    · rw [cdt (show ((P y : Nat) : Int) < ((P x : Nat) : Int) by omega)]
      exact key _ _ (by omega) (by omega)
    · rw [cdf (show ¬ ((P y : Nat) : Int) < ((P x : Nat) : Int) by omega)]
      exact key _ _ (by omega) (by omega)

theorem specUnite_eq {n : Nat} {P : Nat → Nat} {x y : Nat} (hn : n ≤ 1048576) (hx : x < n) (hy : y < n) : zz20 big (ptL n P) (x : Int) (y : Int) = some (ptL n (uni P x y), ()) := by
  unfold zz20 zz20_s
  have g : ∀ z, z < n → atI (ptL n P) (z : Int) = some ((P z : Nat) : Int) := fun z hz => atI_mkR hz
  have e1 : zz18 ((P x : Nat) : Int) ((P y : Nat) : Int) = some (((min (P x) (P y) : Nat) : Int), ()) := by
    unfold zz18 zz18_s
    by_cases c : P x < P y
    · rw [cdt (by omega), Nat.min_eq_left (by omega)]
    · rw [cdf (by omega), Nat.min_eq_right (by omega)]
  have e2 : zz19 ((P x : Nat) : Int) ((P y : Nat) : Int) = some (((max (P x) (P y) : Nat) : Int), ()) := by
    unfold zz19 zz19_s
    by_cases c : P y < P x
    · rw [cdt (by omega), Nat.max_eq_left (by omega)]
    · rw [cdf (by omega), Nat.max_eq_right (by omega)]
  simp only [g x hx, g y hy, Option.bind_some, e1, e2]
  refine zz20_h4 n (fun i q => q = ptL i (uni P x y)) (by omega) ?_ ?_ 0 (by omega) _ rfl
  · intro rc i q hi hq ih
    have hl := ptL_len i (uni P x y)
    unfold zz20_b4
    simp only [ptL_len, cdt (show (i : Int) < (n : Int) by omega), g i hi, Option.bind_some, wr1 (show i ≤ 4611686018427387904 by omega)]
    by_cases c : P i = max (P x) (P y)
    · rw [cdt (congrArg Nat.cast c), app1 (by rw [hq, hl]; omega), Option.bind_some]
      refine ih _ ?_
      rw [hq]; unfold ptL; rw [mkR_succ]
      unfold uni; rw [if_pos c]
    · rw [cdf (show ¬ ((P i : Nat) : Int) = ((max (P x) (P y) : Nat) : Int) by omega), app1 (by rw [hq, hl]; omega), Option.bind_some]
      refine ih _ ?_
      rw [hq]; unfold ptL; rw [mkR_succ]
      unfold uni; rw [if_neg c]
  · intro rc q hq
    unfold zz20_b4
    rw [ptL_len, cdf (by omega), zz20_a4, hq]

def opsL (n : Nat) (fs : List (Nat → Nat → Nat)) : List OpT := fs.map fun f => ((2 : Int), flt n (fun x y => ((f x y : Nat) : Int)) n, ())

def algL (n : Nat) (fs : List (Nat → Nat → Nat)) : AlT := ((n : Int), opsL n fs, ())

def Opn (n : Nat) (fs : List (Nat → Nat → Nat)) : Prop := ∀ f ∈ fs, ∀ x y, x < n → y < n → f x y < n

def oth (f : Nat → Nat → Nat) (n : Nat) (P : Nat → Nat) (k i : Nat) : Nat := if k = 0 then f (i / n) (P (i % n)) else f (P (i / n)) (i % n)

def Wp (f : Nat → Nat → Nat) (n : Nat) (P : Nat → Nat) (k i : Nat) : Prop := P (f (i / n) (i % n)) = P (oth f n P k i)

def Cg (n : Nat) (fs : List (Nat → Nat → Nat)) (P : Nat → Nat) : Prop := ∀ f ∈ fs, ∀ k, k < 2 → ∀ i, i < n * n → Wp f n P k i

def Lst (n : Nat) (fs : List (Nat → Nat → Nat)) (P p : Nat → Nat) : Prop := ∀ C, Pt n C → Lep n P C → Cg n fs C → Lep n p C

theorem ix_lt {n i : Nat} (h : i < n * n) : i / n < n ∧ i % n < n := by
  have hn : 0 < n := by
    rcases Nat.eq_zero_or_pos n with e | e
    · subst e; omega
    · exact e
  exact ⟨Nat.div_lt_of_lt_mul h, Nat.mod_lt _ hn⟩

theorem ix_mk {n x y : Nat} (hx : x < n) (hy : y < n) : x * n + y < n * n ∧ (x * n + y) / n = x ∧ (x * n + y) % n = y := by
  have hn : 0 < n := by omega
  refine ⟨?_, ?_, ?_⟩
  · have := Nat.mul_le_mul_right n (show x + 1 ≤ n by omega)
    rw [Nat.succ_mul] at this; omega
  · rw [Nat.mul_comm, Nat.mul_add_div hn, Nat.div_eq_of_lt hy, Nat.add_zero]
  · rw [Nat.mul_comm, Nat.mul_add_mod, Nat.mod_eq_of_lt hy]

theorem ix_eq (n i : Nat) : i / n * n + i % n = i := by
  rw [Nat.mul_comm]; exact Nat.div_add_mod i n

theorem flt_get {n : Nat} {f : Nat → Nat → Int} (hn : 0 < n) : ∀ {k i : Nat}, i < k * n → (flt n f k)[i]? = some (f (i / n) (i % n))
  | 0, i, h => by omega
  | k + 1, i, h => by
    have hl := flt_len n f k
    rw [Nat.succ_mul] at h
    unfold flt
    by_cases c : i < k * n
    · rw [List.getElem?_append_left (by omega)]; exact flt_get hn c
    · obtain ⟨j, rfl⟩ : ∃ j, i = n * k + j := ⟨i - n * k, by rw [Nat.mul_comm n k]; omega⟩
      have h2 : j < n := by rw [Nat.mul_comm n k] at h; omega
      have h3 : n * k + j - k * n = j := by rw [Nat.mul_comm n k]; omega
      have e1 : (n * k + j) / n = k := by rw [Nat.mul_add_div hn, Nat.div_eq_of_lt h2, Nat.add_zero]
      have e2 : (n * k + j) % n = j := by rw [Nat.mul_add_mod, Nat.mod_eq_of_lt h2]
      rw [List.getElem?_append_right (by omega), hl, h3, get_mkR h2, e1, e2]

theorem ops_len (n : Nat) (fs : List (Nat → Nat → Nat)) : (opsL n fs).length = fs.length := List.length_map _

theorem ops_at {n : Nat} {fs : List (Nat → Nat → Nat)} {t : Nat} (h : t < fs.length) : atI (opsL n fs) (t : Int) = some ((2 : Int), flt n (fun x y => ((fs[t] x y : Nat) : Int)) n, ()) := by
  rw [atI_lt _ t (by rw [ops_len]; exact h)]; simp [opsL]

theorem tab_at {n : Nat} {f : Nat → Nat → Nat} {i : Nat} (h : i < n * n) : atI (flt n (fun x y => ((f x y : Nat) : Int)) n) (i : Int) = some ((f (i / n) (i % n) : Nat) : Int) := by
  have hn : 0 < n := Nat.lt_of_le_of_lt (Nat.zero_le _) (ix_lt h).1
  rw [atI_nat, flt_get hn h]

theorem quo_nat {a b : Nat} (hb : 0 < b) (ha : a ≤ 4611686018427387904) : quoI IntKind.i64 (a : Int) (b : Int) = some ((a / b : Nat) : Int) := by
  unfold quoI
  rw [if_neg (by omega), Int.tdiv_eq_ediv_of_nonneg (by omega), ← Int.natCast_ediv, wr (by have := Int.natCast_nonneg (a / b); omega) (by have := Nat.div_le_self a b; generalize a / b = c at *; omega)]

theorem rem_nat {a b : Nat} (hb : 0 < b) : remI (a : Int) (b : Int) = some ((a % b : Nat) : Int) := by
  unfold remI
  rw [if_neg (by omega), Int.tmod_eq_emod_of_nonneg (by omega), ← Int.natCast_emod]

theorem cg_xy {n : Nat} {fs : List (Nat → Nat → Nat)} {C : Nat → Nat} (h : Cg n fs C) {f : Nat → Nat → Nat} (hf : f ∈ fs) {x y : Nat} (hx : x < n) (hy : y < n) : C (f x y) = C (f x (C y)) ∧ C (f x y) = C (f (C x) y) := by
  obtain ⟨h1, h2, h3⟩ := ix_mk hx hy
  have a := h f hf 0 (by omega) _ h1
  have b := h f hf 1 (by omega) _ h1
  unfold Wp oth at a b
  rw [h2, h3] at a b
  exact ⟨a, b⟩

theorem cg_of {n : Nat} {fs : List (Nat → Nat → Nat)} {C : Nat → Nat} (h : ∀ f ∈ fs, ∀ x y, x < n → y < n → C (f x y) = C (f x (C y)) ∧ C (f x y) = C (f (C x) y)) : Cg n fs C := by
  intro f hf k hk i hi
  obtain ⟨h1, h2⟩ := ix_lt hi
  have := h f hf _ _ h1 h2
  unfold Wp oth
  by_cases e : k = 0
  · rw [if_pos e]; exact this.1
  · rw [if_neg e]; exact this.2

theorem oth_lt {n : Nat} {fs : List (Nat → Nat → Nat)} (ho : Opn n fs) {f : Nat → Nat → Nat} (hf : f ∈ fs) {P : Nat → Nat} (hp : Pt n P) {k i : Nat} (hi : i < n * n) : oth f n P k i < n := by
  obtain ⟨h1, h2⟩ := ix_lt hi
  unfold oth
  split
  · exact ho f hf _ _ h1 (hp.lt h2)
  · exact ho f hf _ _ (hp.lt h1) h2

theorem pair_ok {n : Nat} {fs : List (Nat → Nat → Nat)} {f : Nat → Nat → Nat} (hf : f ∈ fs) {p C : Nat → Nat} (hp : Pt n p) (hl : Lep n p C) (hc : Cg n fs C) {k i : Nat} (hi : i < n * n) : C (f (i / n) (i % n)) = C (oth f n p k i) := by
  obtain ⟨h1, h2⟩ := ix_lt hi
  unfold oth
  split
  · rw [(cg_xy hc hf h1 h2).1, (cg_xy hc hf h1 (hp.lt h2)).1, hl _ h2]
  · rw [(cg_xy hc hf h1 h2).2, (cg_xy hc hf (hp.lt h1) h2).2, hl _ h1]

structure StW (n : Nat) (X : Nat → Nat) (b : Bool) (p : Nat → Nat) : Prop where
  eq : b = false → ∀ x, x < n → p x = X x
  lt : b = true → cls n p < cls n X

theorem uni_ne {n : Nat} {p : Nat → Nat} {v w : Nat} (hv : v < n) (hw : w < n) (e : p v ≠ p w) : ∃ x, x < n ∧ uni p v w x ≠ p x := by
  rcases Nat.lt_or_ge (p v) (p w) with c | c
  · refine ⟨w, hw, ?_⟩
    unfold uni
    rw [Nat.max_eq_right (by omega), Nat.min_eq_left (by omega), if_pos rfl]; omega
  · refine ⟨v, hv, ?_⟩
    unfold uni
    rw [Nat.max_eq_left (by omega), Nat.min_eq_right (by omega), if_pos rfl]; omega

theorem StW.step_ne {n : Nat} {X p : Nat → Nat} {b : Bool} (hp : Pt n p) (h : StW n X b p) {v w : Nat} (hv : v < n) (hw : w < n) (e : p v ≠ p w) : StW n X true (uni p v w) where
  eq := fun h => absurd h (by simp)
  lt := fun _ => by
    obtain ⟨x, hx, hne⟩ := uni_ne hv hw e
    have h1 := cls_lt hp (uni_pt hp hv hw) (le_uni hp v w) hx hne
    cases b with
    | true => have := h.lt rfl; omega
    | false => have := cls_congr (h.eq rfl); omega

theorem StW.step_eq {n : Nat} {X p : Nat → Nat} {b : Bool} (h : StW n X b p) {v w : Nat} (e : p v = p w) : StW n X b (uni p v w) where
  eq := fun hb x hx => by rw [uni_same e]; exact h.eq hb x hx
  lt := fun hb => by rw [cls_congr (Q := p) fun x _ => uni_same e x]; exact h.lt hb

structure IVp (n : Nat) (fs : List (Nat → Nat → Nat)) (P p0 : Nat → Nat) (D : Prop) (l : List Int) (was ch : Bool) (p : Nat → Nat) : Prop where
  form : l = ptL n p
  pt : Pt n p
  le : Lep n P p
  lst : Lst n fs P p
  st : StW n P was p
  st0 : StW n p0 ch p
  done : ch = false → D

theorem IVp.step_ne {n : Nat} {fs : List (Nat → Nat → Nat)} {P p0 p : Nat → Nat} {D D' : Prop} {l : List Int} {was ch : Bool} (ho : Opn n fs) (h : IVp n fs P p0 D l was ch p) {f : Nat → Nat → Nat} (hf : f ∈ fs) {k i : Nat} (hi : i < n * n) (hP : Pt n P) (e : p (f (i / n) (i % n)) ≠ p (oth f n p k i)) :
    IVp n fs P p0 D' (ptL n (uni p (f (i / n) (i % n)) (oth f n p k i))) true true (uni p (f (i / n) (i % n)) (oth f n p k i)) := by
  obtain ⟨h1, h2⟩ := ix_lt hi
  have hv := ho f hf _ _ h1 h2
  have hw := oth_lt ho hf h.pt (k := k) hi
  exact ⟨rfl, uni_pt h.pt hv hw, Lep.trans hP h.le (le_uni h.pt _ _), fun C hC hl hc => uni_le h.pt (h.lst C hC hl hc) hv hw (pair_ok hf h.pt (h.lst C hC hl hc) hc hi), h.st.step_ne h.pt hv hw e, h.st0.step_ne h.pt hv hw e, fun c => absurd c (by simp)⟩

theorem IVp.step_eq {n : Nat} {fs : List (Nat → Nat → Nat)} {P p0 p : Nat → Nat} {D D' : Prop} {l : List Int} {was ch : Bool} (ho : Opn n fs) (h : IVp n fs P p0 D l was ch p) {f : Nat → Nat → Nat} (hf : f ∈ fs) {k i : Nat} (hi : i < n * n) (hP : Pt n P) (e : p (f (i / n) (i % n)) = p (oth f n p k i)) (hD : D → Wp f n p0 k i → D') :
    IVp n fs P p0 D' (ptL n (uni p (f (i / n) (i % n)) (oth f n p k i))) was ch (uni p (f (i / n) (i % n)) (oth f n p k i)) := by
  obtain ⟨h1, h2⟩ := ix_lt hi
  have hv := ho f hf _ _ h1 h2
  have hw := oth_lt ho hf h.pt (k := k) hi
  refine ⟨rfl, uni_pt h.pt hv hw, Lep.trans hP h.le (le_uni h.pt _ _), fun C hC hl hc => uni_le h.pt (h.lst C hC hl hc) hv hw (pair_ok hf h.pt (h.lst C hC hl hc) hc hi), h.st.step_eq e, h.st0.step_eq e, fun c => hD (h.done c) ?_⟩
  have hq := h.st0.eq c
  have eo : oth f n p0 k i = oth f n p k i := by unfold oth; rw [hq _ h1, hq _ h2]
  unfold Wp
  rw [eo, ← hq _ hv, ← hq _ hw, e]

def PassD (n : Nat) (fs : List (Nat → Nat → Nat)) (p0 : Nat → Nat) (t k i : Nat) : Prop :=
  (∀ j, j < t → ∀ h : j < fs.length, ∀ k, k < 2 → ∀ i, i < n * n → Wp fs[j] n p0 k i) ∧ (∀ h : t < fs.length, (∀ k', k' < k → ∀ i, i < n * n → Wp fs[t] n p0 k' i) ∧ ∀ i', i' < i → Wp fs[t] n p0 k i')

structure ClR (n : Nat) (fs : List (Nat → Nat → Nat)) (P q : Nat → Nat) (was : Bool) : Prop where
  pt : Pt n q
  le : Lep n P q
  lst : Lst n fs P q
  cg : Cg n fs q
  st : StW n P was q

def muL (l : List Int) : Nat := ((List.range l.length).filter fun (i : Nat) => decide (l[i]? = some (i : Int))).length

theorem muL_eq (n : Nat) (p : Nat → Nat) : muL (ptL n p) = cls n p := by
  unfold muL cls fl
  rw [ptL_len]
  congr 1
  refine List.filter_congr fun x hx => ?_
  rw [show (ptL n p)[x]? = some ((p x : Nat) : Int) from get_mkR (List.mem_range.1 hx)]
  refine decide_eq_decide.2 ⟨fun h => by have := Option.some.inj h; omega, fun h => by rw [h]⟩

theorem idx0 {n i : Nat} {p : Nat → Nat} (h10 : n ≤ 10) (hi : i < n * n) (hp : Pt n p) : IntKind.i64.wrap ((i : Int) + IntKind.i64.wrap (IntKind.i64.wrap (((p (i % n) : Nat) : Int) - ((i % n : Nat) : Int)) * ((n ^ 0 : Nat) : Int))) = ((i / n * n + p (i % n) : Nat) : Int) := by
  obtain ⟨h1, h2⟩ := ix_lt hi
  have hnn := nn_le (i := n) (n := n) h10 h10
  have e := ix_eq n i
  have l := hp.lo _ h2
  rw [show ((n ^ 0 : Nat) : Int) = 1 by simp, Int.mul_one]
  generalize i / n * n = a at *
  generalize i % n = b at *
  rw [wr (n := ((p b : Nat) : Int) - (b : Int)) (by omega) (by omega), wr (n := ((p b : Nat) : Int) - (b : Int)) (by omega) (by omega), wr (by omega) (by omega)]
  omega

theorem idx1 {n i : Nat} {p : Nat → Nat} (h10 : n ≤ 10) (hi : i < n * n) (hp : Pt n p) : IntKind.i64.wrap ((i : Int) + IntKind.i64.wrap (IntKind.i64.wrap (((p (i / n) : Nat) : Int) - ((i / n : Nat) : Int)) * ((n ^ 1 : Nat) : Int))) = ((p (i / n) * n + i % n : Nat) : Int) := by
  obtain ⟨h1, h2⟩ := ix_lt hi
  have hnn := nn_le (i := n) (n := n) h10 h10
  have e := ix_eq n i
  have l := hp.lo _ h1
  have l2 := Nat.mul_le_mul_right n l
  rw [Nat.pow_one]
  generalize i / n = a at *
  generalize i % n = b at *
  rw [wr (n := ((p a : Nat) : Int) - (a : Int)) (by omega) (by omega), Int.sub_mul, ← Int.natCast_mul, ← Int.natCast_mul]
  generalize p a * n = c at *
  generalize a * n = d at *
  rw [wr (n := (c : Int) - (d : Int)) (by omega) (by omega), wr (by omega) (by omega)]
  omega

theorem close_step {n : Nat} {fs : List (Nat → Nat → Nat)} (h10 : n ≤ 10) (ho : Opn n fs) {p : Nat → Nat} (hp : Pt n p) {f : Nat → Nat → Nat} (hf : f ∈ fs) {k i : Nat} (hk : k < 2) (hi : i < n * n) {R : Type} (G : List Int × Bool → Option R) :
    ((quoI IntKind.i64 (i : Int) ((n ^ k : Nat) : Int)).bind fun xq3 => (remI xq3 (n : Int)).bind fun xq4 => (atI (ptL n p) xq4).bind fun _ => ((ptL n p)[xq4.toNat]?).bind fun xq5 =>
      (atI (flt n (fun x y => ((f x y : Nat) : Int)) n) (IntKind.i64.wrap ((i : Int) + (IntKind.i64.wrap ((IntKind.i64.wrap (xq5 - xq4)) * ((n ^ k : Nat) : Int)))))).bind fun xq6 =>
      (zz53 big (ptL n p) ((f (i / n) (i % n) : Nat) : Int) xq6).bind fun rq7 => G (rq7.2.1, rq7.1)) =
    G (ptL n (uni p (f (i / n) (i % n)) (oth f n p k i)), decide (p (f (i / n) (i % n)) ≠ p (oth f n p k i))) := by
  obtain ⟨h1, h2⟩ := ix_lt hi
  have hn : 0 < n := Nat.lt_of_le_of_lt (Nat.zero_le _) h1
  have hnn := nn_le (i := n) (n := n) h10 h10
  have hv := ho f hf _ _ h1 h2
  have hw := oth_lt ho hf hp (k := k) hi
  have g : ∀ z, z < n → atI (ptL n p) (z : Int) = some ((p z : Nat) : Int) := fun z hz => atI_mkR hz
  have g2 : ∀ z, z < n → (ptL n p)[z]? = some ((p z : Nat) : Int) := fun z hz => get_mkR hz
  have hu := unite_eq (n := n) (P := p) (show n ≤ 1048576 by omega) hv hw
  have hk2 : k = 0 ∨ k = 1 := by omega
  rcases hk2 with rfl | rfl
  · obtain ⟨a1, a2, a3⟩ := ix_mk h1 (hp.lt h2)
    rw [quo_nat (by simp) (by omega)]
    simp only [Option.bind_some, rem_nat hn, Nat.pow_zero, Nat.div_one, g _ h2, Int.toNat_natCast, g2 _ h2]
    have e := idx0 h10 hi hp
    simp only [Nat.pow_zero] at e
    rw [e, tab_at a1, a2, a3, Option.bind_some]
    unfold oth at hu ⊢
    simp only [if_pos] at hu ⊢
    rw [hu, Option.bind_some]
  · obtain ⟨a1, a2, a3⟩ := ix_mk (hp.lt h1) h2
    rw [quo_nat (by rw [Nat.pow_one]; exact hn) (by omega)]
    have em : i / n % n = i / n := Nat.mod_eq_of_lt h1
    simp only [Option.bind_some, rem_nat hn, Nat.pow_one, em, g _ h1, Int.toNat_natCast, g2 _ h1]
    have e := idx1 h10 hi hp
    simp only [Nat.pow_one] at e
    rw [e, tab_at a1, a2, a3, Option.bind_some]
    unfold oth at hu ⊢
    simp only [if_neg (show ¬ (1 : Nat) = 0 by omega)] at hu ⊢
    rw [hu, Option.bind_some]

theorem close_eq {n : Nat} {fs : List (Nat → Nat → Nat)} (h10 : n ≤ 10) (hn : 0 < n) (hfl : fs.length ≤ 10) (ho : Opn n fs) {P : Nat → Nat} (hP : Pt n P) : ∃ was q, zz54 big (algL n fs) (ptL n P) = some (was, (ptL n q, ())) ∧ ClR n fs P q was := by
  have hnn := nn_le (i := n) (n := n) h10 h10
  unfold zz54 zz54_s
  refine zz54_v3 (Q := fun r => ∃ was q, r = some (was, (ptL n q, ())) ∧ ClR n fs P q was) (fun l was ch => muL l * 2 + if ch then 1 else 0)
    (fun l was ch => ∃ p, l = ptL n p ∧ Pt n p ∧ Lep n P p ∧ Lst n fs P p ∧ StW n P was p ∧ (ch = false → Cg n fs p)) ?_ _ _ _ ?_ ⟨P, rfl, hP, Lep.refl hP, fun C _ hl _ => hl, ⟨fun _ _ _ => rfl, fun h => absurd h (by simp)⟩, fun h => absurd h (by simp)⟩
  · rintro rc l was ch ⟨p0, rfl, hp0, hle0, hlst0, hst0, hcg0⟩ ih
    unfold zz54_b3
    cases ch with
    | false => exact ⟨was, p0, rfl, hp0, hle0, hlst0, hcg0 rfl, hst0⟩
    | true =>
      rw [cond_true]
      refine zz54_q6 (Q := fun r => ∃ was q, r = some (was, (ptL n q, ())) ∧ ClR n fs P q was) fs.length (fun t l was ch => ∃ p, IVp n fs P p0 (PassD n fs p0 t 0 0) l was ch p) (by omega) ?_ ?_ 0 (by omega) _ _ _ ⟨p0, rfl, hp0, hle0, hlst0, hst0, ⟨fun _ _ _ => rfl, fun h => absurd h (by simp)⟩, fun _ => ⟨fun j hj => by omega, fun _ => ⟨fun j hj => by omega, fun j hj => by omega⟩⟩⟩
      · rintro rc2 t l was ch ht hv ih2
        have hm := List.getElem_mem ht
        unfold zz54_b6
        simp only [algL, ops_len, cdt (show (t : Int) < (fs.length : Int) by omega), ops_at ht, Option.bind_some]
        refine zz54_q10 (Q := fun r => ∃ was q, r = some (was, (ptL n q, ())) ∧ ClR n fs P q was) 2 (fun k l was ch step => step = ((n ^ k : Nat) : Int) ∧ ∃ p, IVp n fs P p0 (PassD n fs p0 t k 0) l was ch p) (by omega) ?_ ?_ 0 (by omega) _ _ _ _ ⟨by simp, hv⟩
        · rintro rc3 k l was ch step hk ⟨rfl, hv⟩ ih3
          unfold zz54_b10
          simp only [cdt (show (k : Int) < (2 : Int) by omega), flt_len]
          refine zz54_q13 (Q := fun r => ∃ was q, r = some (was, (ptL n q, ())) ∧ ClR n fs P q was) (n * n) (fun i l was ch => ∃ p, IVp n fs P p0 (PassD n fs p0 t k i) l was ch p) (by omega) ?_ ?_ 0 (by omega) _ _ _ hv
          · rintro rc4 i l was ch hi ⟨p, hv⟩ ih4
            have hl := hv.form
            subst hl
            unfold zz54_b13
            rw [cdt (by omega), tab_at hi, Option.bind_some]
            refine (congrArg (fun r => ∃ was q, r = some (was, (ptL n q, ())) ∧ ClR n fs P q was) (close_step h10 ho hv.pt hm hk hi fun r => cond r.2 (rc4 r.1 (algL n fs) true true _ _ _ _ _ _ _ _ (IntKind.i64.wrap ((i : Int) + (1 : Int)))) (rc4 r.1 (algL n fs) was ch _ _ _ _ _ _ _ _ (IntKind.i64.wrap ((i : Int) + (1 : Int)))))).mpr ?_
            rw [wr1 (by omega)]
            by_cases e : p (fs[t] (i / n) (i % n)) = p (oth fs[t] n p k i)
            · simp only [e, ne_eq, not_true_eq_false, decide_false, cond_false]
              have := hv.step_eq ho hm hi hP e (D' := PassD n fs p0 t k (i + 1)) (fun d w => ⟨d.1, fun h => ⟨(d.2 h).1, all_lt_succ.2 ⟨(d.2 h).2, w⟩⟩⟩)
              exact ih4 _ _ _ ⟨_, this⟩
            · simp only [ne_eq, e, not_false_eq_true, decide_true, cond_true]
              exact ih4 _ _ _ ⟨_, hv.step_ne ho hm hi hP e⟩
          · rintro rc4 l was ch ⟨p, hv⟩
            unfold zz54_b13
            rw [cdf (by omega), zz54_a13]
            have e1 : IntKind.i64.wrap (((n ^ k : Nat) : Int) * (n : Int)) = ((n ^ (k + 1) : Nat) : Int) := by
              have : n ^ k * n ≤ 100 := by
                have hk2 : k = 0 ∨ k = 1 := by omega
                rcases hk2 with rfl | rfl
                · simp; omega
                · rw [Nat.pow_one]; exact hnn
              rw [← Int.natCast_mul, ← Nat.pow_succ, wr (by have := Int.natCast_nonneg (n ^ (k + 1)); omega) (by rw [Nat.pow_succ]; generalize n ^ k * n = c at *; omega)]
            rw [show IntKind.i64.wrap (((n ^ k : Nat) : Int) * ((n : Int), opsL n fs, ()).1) = _ from e1, wr1 (by omega)]
            exact ih3 _ _ _ _ ⟨rfl, p, hv.form, hv.pt, hv.le, hv.lst, hv.st, hv.st0, fun c => ⟨(hv.done c).1, fun h => ⟨all_lt_succ.2 ⟨((hv.done c).2 h).1, ((hv.done c).2 h).2⟩, fun j hj => by omega⟩⟩⟩
        · rintro rc3 l was ch step ⟨rfl, p, hv⟩
          unfold zz54_b10
          rw [cdf (by simp), zz54_a10, wr1 (by omega)]
          have e2 := ih2 _ _ _ ⟨p, hv.form, hv.pt, hv.le, hv.lst, hv.st, hv.st0, fun c => ⟨all_lt_succ.2 ⟨(hv.done c).1, fun h => ((hv.done c).2 h).1⟩, fun h => ⟨fun j hj => by omega, fun j hj => by omega⟩⟩⟩
          simp only [algL, ops_len] at e2
          exact e2
      · rintro rc2 l was ch ⟨p, hv⟩
        unfold zz54_b6
        simp only [algL, ops_len, cdf (show ¬ (fs.length : Int) < (fs.length : Int) by omega), zz54_a6]
        refine ih _ _ _ ⟨p, hv.form, hv.pt, hv.le, hv.lst, hv.st, fun c => ?_⟩ ?_
        · intro f hf k hk i hi
          obtain ⟨j, hj, rfl⟩ := List.getElem_of_mem hf
          have w := (hv.done c).1 j hj hj k hk i hi
          obtain ⟨i1, i2⟩ := ix_lt hi
          have hq := hv.st0.eq c
          have eo : oth fs[j] n p0 k i = oth fs[j] n p k i := by unfold oth; rw [hq _ i1, hq _ i2]
          unfold Wp at w ⊢
          rw [eo, ← hq _ (ho _ hf _ _ i1 i2), ← hq _ (oth_lt ho hf hv.pt hi)] at w
          exact w
        · rw [hv.form, muL_eq, muL_eq]
          cases ch with
          | true => have := hv.st0.lt rfl; simp; omega
          | false => have := cls_congr (hv.st0.eq rfl); simp; omega
  · rw [muL_eq]; have := cls_le (n := n) P; simp; omega

theorem args2_eq {n i : Nat} (h10 : n ≤ 10) (hi : i < n * n) : zz22 big (n : Int) 2 (i : Int) = some ([((i / n : Nat) : Int), ((i % n : Nat) : Int)], ()) := by
  obtain ⟨h1, h2⟩ := ix_lt hi
  have hn : 0 < n := Nat.lt_of_le_of_lt (Nat.zero_le _) h1
  have hnn := nn_le (i := n) (n := n) h10 h10
  unfold zz22 zz22_s
  rw [show mkI (0 : Int) 2 = some [0, 0] from rfl, Option.bind_some, Option.bind_some, cdt (by omega), wr (by omega) (by omega)]
  refine zz22_w3 (fun _ _ k => (k + 1).toNat) (fun a o k => (k = 1 ∧ a = (i : Int) ∧ o = [0, 0]) ∨ (k = 0 ∧ a = ((i / n : Nat) : Int) ∧ o = [0, ((i % n : Nat) : Int)]) ∨ (k = -1 ∧ o = [((i / n : Nat) : Int), ((i % n : Nat) : Int)])) ?_ _ _ _ (by simp) (.inl ⟨by omega, rfl, rfl⟩)
  rintro rc a o k (⟨rfl, rfl, rfl⟩ | ⟨rfl, rfl, rfl⟩ | ⟨rfl, rfl⟩) ih
  · unfold zz22_b3
    rw [cdt (by omega), rem_nat hn, quo_nat hn (by omega)]
    simp only [Option.bind_some]
    rw [show atI [(0 : Int), 0] (1 : Int) = some 0 from rfl, Option.bind_some, show ([(0 : Int), 0])[((1 : Int)).toNat]? = some 0 from rfl, Option.bind_some, wr (by omega) (by omega)]
    exact ih _ _ _ (.inr (.inl ⟨by omega, rfl, rfl⟩)) (by simp)
  · unfold zz22_b3
    rw [cdt (by omega), rem_nat hn, quo_nat hn (by generalize i / n = c at *; omega)]
    simp only [Option.bind_some]
    rw [show atI [(0 : Int), ((i % n : Nat) : Int)] (0 : Int) = some 0 from rfl, Option.bind_some, show ([(0 : Int), ((i % n : Nat) : Int)])[((0 : Int)).toNat]? = some 0 from rfl, Option.bind_some, wr (by omega) (by omega), Nat.mod_eq_of_lt h1]
    exact ih _ _ _ (.inr (.inr ⟨by omega, rfl⟩)) (by simp)
  · unfold zz22_b3
    rw [cdf (by omega), zz22_a3]

theorem value2_eq {n : Nat} {fs : List (Nat → Nat → Nat)} (h10 : n ≤ 10) {t x y : Nat} (ht : t < fs.length) (hx : x < n) (hy : y < n) : zz23 big (algL n fs) (t : Int) [(x : Int), (y : Int)] = some (((fs[t] x y : Nat) : Int), ()) := by
  have hnn := nn_le (i := n) (n := n) h10 h10
  obtain ⟨a1, a2, a3⟩ := ix_mk hx hy
  unfold zz23 zz23_s
  refine zz23_h3 2 (fun k v => v = if k = 0 then (0 : Int) else if k = 1 then (x : Int) else ((x * n + y : Nat) : Int)) (by omega) ?_ ?_ 0 (by omega) _ (by simp)
  · intro rc k v hk hv ih
    have hk2 : k = 0 ∨ k = 1 := by omega
    unfold zz23_b3
    rcases hk2 with rfl | rfl
    · rw [if_pos rfl] at hv
      subst hv
      rw [cdt (by simp), show atI [(x : Int), (y : Int)] ((0 : Nat) : Int) = some (x : Int) from rfl, Option.bind_some, Int.zero_mul, wr (n := 0) (by omega) (by omega), wr (by omega) (by omega), wr1 (by omega)]
      exact ih _ (by simp)
    · rw [if_neg (by omega), if_pos rfl] at hv
      subst hv
      rw [cdt (by simp), show atI [(x : Int), (y : Int)] ((1 : Nat) : Int) = some (y : Int) from rfl, Option.bind_some, show (x : Int) * (algL n fs).1 = ((x * n : Nat) : Int) from (Int.natCast_mul x n).symm, wr (n := ((x * n : Nat) : Int)) (by omega) (by omega), wr (by omega) (by omega), wr1 (by omega)]
      exact ih _ (by simp)
  · intro rc v hv
    rw [if_neg (by omega), if_neg (by omega)] at hv
    unfold zz23_b3
    rw [cdf (by simp), zz23_a3, show (algL n fs).2.1 = opsL n fs from rfl, ops_at ht, Option.bind_some, hv, tab_at a1, a2, a3]
    rfl

structure PuR (n : Nat) (fs : List (Nat → Nat → Nat)) (P : Nat → Nat) (D : Prop) (O : Nat → Nat) : Prop where
  pt : Pt n O
  le : Lep n P O
  lst : Lst n fs P O
  done : D

def PuD (n : Nat) (fs : List (Nat → Nat → Nat)) (P O : Nat → Nat) (t i k : Nat) : Prop :=
  (∀ j, j < t → ∀ h : j < fs.length, ∀ k, k < 2 → ∀ i, i < n * n → O (fs[j] (i / n) (i % n)) = O (oth fs[j] n P (1 - k) i)) ∧
  (∀ h : t < fs.length, (∀ i', i' < i → ∀ k, k < 2 → O (fs[t] (i' / n) (i' % n)) = O (oth fs[t] n P (1 - k) i')) ∧ ∀ k', k' < k → O (fs[t] (i / n) (i % n)) = O (oth fs[t] n P (1 - k') i))

theorem PuR.step {n : Nat} {fs : List (Nat → Nat → Nat)} {P O : Nat → Nat} (ho : Opn n fs) (hP : Pt n P) {t i k : Nat} (ht : t < fs.length) (hi : i < n * n) (h : PuR n fs P (PuD n fs P O t i k) O) :
    PuR n fs P (PuD n fs P (uni O (fs[t] (i / n) (i % n)) (oth fs[t] n P (1 - k) i)) t i (k + 1)) (uni O (fs[t] (i / n) (i % n)) (oth fs[t] n P (1 - k) i)) := by
  obtain ⟨h1, h2⟩ := ix_lt hi
  have hm := List.getElem_mem ht
  have hv := ho _ hm _ _ h1 h2
  have hw := oth_lt ho hm hP (k := 1 - k) hi
  have hle := le_uni h.pt (fs[t] (i / n) (i % n)) (oth fs[t] n P (1 - k) i)
  have keep : ∀ {g : Nat → Nat → Nat} {k' i' : Nat}, g ∈ fs → i' < n * n → O (g (i' / n) (i' % n)) = O (oth g n P k' i') → uni O (fs[t] (i / n) (i % n)) (oth fs[t] n P (1 - k) i) (g (i' / n) (i' % n)) = uni O (fs[t] (i / n) (i % n)) (oth fs[t] n P (1 - k) i) (oth g n P k' i') := fun hg hi' e =>
    hle.ker (ho _ hg _ _ (ix_lt hi').1 (ix_lt hi').2) (oth_lt ho hg hP hi') e
  exact ⟨uni_pt h.pt hv hw, Lep.trans hP h.le hle, fun C hC hl hc => uni_le h.pt (h.lst C hC hl hc) hv hw (pair_ok hm hP hl hc hi),
    ⟨fun j hj hjl k hk i' hi' => keep (List.getElem_mem hjl) hi' (h.done.1 j hj hjl k hk i' hi'), fun hh => ⟨fun i' hi' k hk => keep hm (by omega) ((h.done.2 ht).1 i' hi' k hk), all_lt_succ.2 ⟨fun k' hk' => keep hm hi ((h.done.2 ht).2 k' hk'), uni_eq _ _ _⟩⟩⟩⟩

theorem push_eq {n : Nat} {fs : List (Nat → Nat → Nat)} (h10 : n ≤ 10) (hfl : fs.length ≤ 10) (ho : Opn n fs) {P : Nat → Nat} (hP : Pt n P) : ∃ O, zz24 big (algL n fs) (ptL n P) = some (ptL n O, ()) ∧ PuR n fs P (PuD n fs P O fs.length 0 0) O := by
  have hnn := nn_le (i := n) (n := n) h10 h10
  have g : ∀ z, z < n → atI (ptL n P) (z : Int) = some ((P z : Nat) : Int) := fun z hz => atI_mkR hz
  have hown : zz21 (ptL n P) = some (ptL n P, ()) := by
    unfold zz21 zz21_s appI
    rw [if_pos (by rw [ptL_len]; simp; omega)]; rfl
  unfold zz24 zz24_s
  rw [hown, Option.bind_some]
  refine zz24_q3 (Q := fun r => ∃ O, r = some (ptL n O, ()) ∧ PuR n fs P (PuD n fs P O fs.length 0 0) O) fs.length (fun t l => ∃ O, l = ptL n O ∧ PuR n fs P (PuD n fs P O t 0 0) O) (by omega) ?_ ?_ 0 (by omega) _ ⟨P, rfl, hP, Lep.refl hP, fun C _ hl _ => hl, fun j hj => by omega, fun _ => ⟨fun j hj => by omega, fun j hj => by omega⟩⟩
  · rintro rc t l ht hv ih
    unfold zz24_b3
    rw [show (algL n fs).2.1 = opsL n fs from rfl, ops_len, cdt (by omega)]
    refine zz24_q6 (Q := fun r => ∃ O, r = some (ptL n O, ()) ∧ PuR n fs P (PuD n fs P O fs.length 0 0) O) (n * n) (fun i l => ∃ O, l = ptL n O ∧ PuR n fs P (PuD n fs P O t i 0) O) (by omega) ?_ ?_ 0 (by omega) _ hv
    · rintro rc2 i l hi hv2 ih2
      obtain ⟨h1, h2⟩ := ix_lt hi
      unfold zz24_b6
      have e0 : atI (algL n fs).2.1 (t : Int) = some ((2 : Int), flt n (fun x y => ((fs[t] x y : Nat) : Int)) n, ()) := ops_at ht
      have e1 : zz22 big (algL n fs).1 ((2 : Int), flt n (fun x y => ((fs[t] x y : Nat) : Int)) n, ()).1 (i : Int) = some ([((i / n : Nat) : Int), ((i % n : Nat) : Int)], ()) := args2_eq h10 hi
      rw [e0, Option.bind_some, cdt (by show (i : Int) < ((flt n (fun x y => ((fs[t] x y : Nat) : Int)) n).length : Int); rw [flt_len]; omega), Option.bind_some, e1, Option.bind_some]
      refine zz24_q10 (Q := fun r => ∃ O, r = some (ptL n O, ()) ∧ PuR n fs P (PuD n fs P O fs.length 0 0) O) 2 (fun k l => ∃ O, l = ptL n O ∧ PuR n fs P (PuD n fs P O t i k) O) (by omega) ?_ ?_ 0 (by omega) _ hv2
      · rintro rc3 k l hk ⟨O, rfl, hO⟩ ih3
        have hm := List.getElem_mem ht
        have hv3 := ho _ hm _ _ h1 h2
        have hw := oth_lt ho hm hP (k := 1 - k) hi
        have hst := hO.step ho hP ht hi
        have hu := specUnite_eq (n := n) (P := O) (show n ≤ 1048576 by omega) hv3 hw
        have hown2 : zz21 [((i / n : Nat) : Int), ((i % n : Nat) : Int)] = some ([((i / n : Nat) : Int), ((i % n : Nat) : Int)], ()) := by
          unfold zz21 zz21_s appI
          rw [if_pos (by simp)]; rfl
        unfold zz24_b10
        have hk2 : k = 0 ∨ k = 1 := by omega
        rcases hk2 with rfl | rfl
        · have a0 : atI [((i / n : Nat) : Int), ((i % n : Nat) : Int)] ((0 : Nat) : Int) = some ((i / n : Nat) : Int) := rfl
          have a1 : ([((i / n : Nat) : Int), ((i % n : Nat) : Int)])[((0 : Nat) : Int).toNat]? = some ((i / n : Nat) : Int) := rfl
          have a2 : ([((i / n : Nat) : Int), ((i % n : Nat) : Int)]).set ((0 : Nat) : Int).toNat ((P (i / n) : Nat) : Int) = [((P (i / n) : Nat) : Int), ((i % n : Nat) : Int)] := rfl
          rw [cdt (by simp), hown2, Option.bind_some, a0, Option.bind_some, a1, Option.bind_some, g _ h1, Option.bind_some, Option.bind_some, Option.bind_some, show (algL n fs).2.1 = opsL n fs from rfl, ops_at ht, Option.bind_some, tab_at hi, Option.bind_some, a2, value2_eq h10 ht (hP.lt h1) h2, Option.bind_some]
          rw [show oth fs[t] n P (1 - 0) i = fs[t] (P (i / n)) (i % n) from rfl] at hu hst
          rw [hu, Option.bind_some, wr1 (by omega)]
          exact ih3 _ ⟨_, rfl, hst⟩
        · have a0 : atI [((i / n : Nat) : Int), ((i % n : Nat) : Int)] ((1 : Nat) : Int) = some ((i % n : Nat) : Int) := rfl
          have a1 : ([((i / n : Nat) : Int), ((i % n : Nat) : Int)])[((1 : Nat) : Int).toNat]? = some ((i % n : Nat) : Int) := rfl
          have a2 : ([((i / n : Nat) : Int), ((i % n : Nat) : Int)]).set ((1 : Nat) : Int).toNat ((P (i % n) : Nat) : Int) = [((i / n : Nat) : Int), ((P (i % n) : Nat) : Int)] := rfl
          rw [cdt (by simp), hown2, Option.bind_some, a0, Option.bind_some, a1, Option.bind_some, g _ h2, Option.bind_some, Option.bind_some, Option.bind_some, show (algL n fs).2.1 = opsL n fs from rfl, ops_at ht, Option.bind_some, tab_at hi, Option.bind_some, a2, value2_eq h10 ht h1 (hP.lt h2), Option.bind_some]
          rw [show oth fs[t] n P (1 - 1) i = fs[t] (i / n) (P (i % n)) from rfl] at hu hst
          rw [hu, Option.bind_some, wr1 (by omega)]
          exact ih3 _ ⟨_, rfl, hst⟩
      · rintro rc3 l ⟨O, rfl, hO⟩
        unfold zz24_b10
        rw [cdf (by simp), zz24_a10, wr1 (by omega)]
        refine ih2 _ ⟨O, rfl, hO.pt, hO.le, hO.lst, hO.done.1, fun h => ⟨all_lt_succ.2 ⟨(hO.done.2 h).1, (hO.done.2 h).2⟩, fun j hj => by omega⟩⟩
    · rintro rc2 l ⟨O, rfl, hO⟩
      unfold zz24_b6
      simp only [show (algL n fs).2.1 = opsL n fs from rfl, ops_at ht, Option.bind_some, flt_len, cdf (show ¬ ((n * n : Nat) : Int) < ((n * n : Nat) : Int) by omega)]
      rw [zz24_a6, wr1 (by omega)]
      refine ih _ ⟨O, rfl, hO.pt, hO.le, hO.lst, all_lt_succ.2 ⟨hO.done.1, fun h k hk i hi => (hO.done.2 h).1 i hi k hk⟩, fun _ => ⟨fun j hj => by omega, fun j hj => by omega⟩⟩
  · rintro rc l ⟨O, rfl, hO⟩
    unfold zz24_b3
    rw [show (algL n fs).2.1 = opsL n fs from rfl, ops_len, cdf (by omega), zz24_a3]
    exact ⟨O, rfl, hO⟩

theorem push_cg {n : Nat} {fs : List (Nat → Nat → Nat)} (ho : Opn n fs) {P O : Nat → Nat} (hP : Pt n P) (hO : PuR n fs P (PuD n fs P O fs.length 0 0) O) : (∀ x, x < n → O x = P x) ↔ Cg n fs P := by
  constructor
  · intro e f hf k hk i hi
    obtain ⟨j, hj, rfl⟩ := List.getElem_of_mem hf
    have w := hO.done.1 j hj hj (1 - k) (by omega) i hi
    rw [show 1 - (1 - k) = k by omega, e _ (ho _ hf _ _ (ix_lt hi).1 (ix_lt hi).2), e _ (oth_lt ho hf hP hi)] at w
    exact w
  · intro hc x hx
    exact (Lep.eq hP hO.pt hO.le (hO.lst P hP (Lep.refl hP) hc) hx).symm

theorem cls_pos {n : Nat} {P : Nat → Nat} (hn : 0 < n) (hP : Pt n P) : 0 < cls n P := by
  have : (0 : Nat) ∈ fl n fun x => decide (P x = x) := fl_mem.2 ⟨hn, decide_eq_true (by have := hP.lo 0 hn; omega)⟩
  exact List.length_pos_of_mem this

structure LeastC (n : Nat) (fs : List (Nat → Nat → Nat)) (P O : Nat → Nat) : Prop where
  pt : Pt n O
  le : Lep n P O
  lst : Lst n fs P O
  cg : Cg n fs O

theorem LeastC.eq {n : Nat} {fs : List (Nat → Nat → Nat)} {P O O' : Nat → Nat} (h : LeastC n fs P O) (h' : LeastC n fs P O') : ptL n O = ptL n O' :=
  ptL_congr fun x hx => Lep.eq h.pt h'.pt (h.lst _ h'.pt h'.le h'.cg) (h'.lst _ h.pt h.le h.cg) hx

theorem specClose_eq {n : Nat} {fs : List (Nat → Nat → Nat)} (h10 : n ≤ 10) (hn : 0 < n) (hfl : fs.length ≤ 10) (ho : Opn n fs) {P : Nat → Nat} (hP : Pt n P) : ∃ O, zz25 big (algL n fs) (ptL n P) = some (ptL n O, ()) ∧ LeastC n fs P O := by
  unfold zz25 zz25_s
  refine zz25_q2 (Q := fun r => ∃ O, r = some (ptL n O, ()) ∧ LeastC n fs P O) n (fun i l => ∃ O, l = ptL n O ∧ Pt n O ∧ Lep n P O ∧ Lst n fs P O ∧ (Cg n fs O ∨ cls n O + i ≤ n)) (by omega) ?_ ?_ 0 (by omega) _ ⟨P, rfl, hP, Lep.refl hP, fun C _ hl _ => hl, .inr (by have := cls_le (n := n) P; omega)⟩
  · rintro rc i l hi ⟨O, rfl, h1, h2, h3, h4⟩ ih
    obtain ⟨O', e, hO'⟩ := push_eq h10 hfl ho h1
    unfold zz25_b2
    rw [show (algL n fs).1 = (n : Int) from rfl, cdt (by omega), e, Option.bind_some, wr1 (by omega)]
    refine ih _ ⟨O', rfl, hO'.pt, Lep.trans hP h2 hO'.le, fun C hC hl hc => hO'.lst C hC (h3 C hC hl hc) hc, ?_⟩
    have hcg : Cg n fs O → Cg n fs O' := fun hc => by
      have heq := (push_cg ho h1 hO').2 hc
      intro f hf k hk i hi
      have w := hc f hf k hk i hi
      have eo : oth f n O' k i = oth f n O k i := by unfold oth; rw [heq _ (ix_lt hi).1, heq _ (ix_lt hi).2]
      unfold Wp at w ⊢
      rw [eo, heq _ (ho _ hf _ _ (ix_lt hi).1 (ix_lt hi).2), heq _ (oth_lt ho hf h1 hi), w]
    rcases h4 with h4 | h4
    · exact .inl (hcg h4)
    · by_cases hc : Cg n fs O
      · exact .inl (hcg hc)
      · have hne : ∃ x, x < n ∧ O' x ≠ O x := by
          by_cases q : ∃ x, x < n ∧ O' x ≠ O x
          · exact q
          · exact absurd ((push_cg ho h1 hO').1 fun x hx => Classical.byContradiction fun e => q ⟨x, hx, e⟩) hc
        obtain ⟨x, hx, hne⟩ := hne
        have := cls_lt h1 hO'.pt hO'.le hx hne
        exact .inr (by omega)
  · rintro rc l ⟨O, rfl, h1, h2, h3, h4⟩
    unfold zz25_b2
    rw [show (algL n fs).1 = (n : Int) from rfl, cdf (by omega), zz25_a2]
    refine ⟨O, rfl, h1, h2, h3, ?_⟩
    rcases h4 with h4 | h4
    · exact h4
    · have := cls_pos hn h1; omega

def CongL (n : Nat) (fs : List (Nat → Nat → Nat)) (l : List Int) : Prop := ∃ P, Pt n P ∧ l = ptL n P ∧ Cg n fs P

abbrev latF (n : Nat) (le : Nat → Nat → Bool) : List (Nat → Nat → Nat) := [mt n le, mt n (du le)]

theorem latF_op {n : Nat} {le : Nat → Nat → Bool} (h : LatP n le) : Opn n (latF n le) := by
  intro f hf x y hx hy
  simp only [List.mem_cons, List.not_mem_nil, or_false] at hf
  rcases hf with rfl | rfl
  · exact h.mlt hx hy
  · exact jlt h hx hy

theorem star_lt {n : Nat} {le : Nat → Nat → Bool} {j : Nat} (hi : irr n le j = true) : star n le j < n := by
  unfold irr at hi
  rw [decide_eq_true_eq] at hi
  unfold star
  cases e : fl n fun x => cov n le x j with
  | nil => rw [e] at hi; simp at hi
  | cons a l => exact (fl_mem.1 (show a ∈ fl n fun x => cov n le x j by rw [e]; exact List.mem_cons_self)).1

theorem uni_comm (P : Nat → Nat) (x y : Nat) : uni P x y = uni P y x := by
  funext z; unfold uni; rw [Nat.max_comm, Nat.min_comm]

theorem id_pt (n : Nat) : Pt n (fun x => x) := ⟨fun x _ => Nat.le_refl x, fun x _ => rfl⟩

noncomputable def lcO (n : Nat) (fs : List (Nat → Nat → Nat)) (P : Nat → Nat) : Nat → Nat := @dite _ (∃ O, LeastC n fs P O) (Classical.propDecidable _) (fun h => Classical.choose h) fun _ => P

theorem lcO_spec {n : Nat} {fs : List (Nat → Nat → Nat)} {P O : Nat → Nat} (h : LeastC n fs P O) : LeastC n fs P (lcO n fs P) := by
  unfold lcO
  rw [dif_pos ⟨O, h⟩]
  exact Classical.choose_spec (p := fun O => LeastC n fs P O) ⟨O, h⟩

theorem lcO_eq {n : Nat} {fs : List (Nat → Nat → Nat)} {P O : Nat → Nat} (h : LeastC n fs P O) : ptL n O = ptL n (lcO n fs P) := h.eq (lcO_spec h)

theorem identityOf_eq {n : Nat} (hn : n ≤ 1048576) : zz52 big (n : Int) = some (ptL n fun x => x, ()) := by
  unfold zz52 zz52_s
  rw [mkI_mkR (by omega), Option.bind_some, Option.bind_some, cdt (by omega), mkR_len]
  refine zz52_h3 n (fun i l => l = mkR n fun x => if x < i then (x : Int) else 0) (by omega) ?_ ?_ 0 (by omega) _ (mkR_congr fun x _ => by rw [if_neg (by omega)])
  · rintro rc i l hi rfl ih
    unfold zz52_b3
    rw [cdt (by omega), atI_mkR hi, Option.bind_some, Int.toNat_natCast, get_mkR hi, Option.bind_some, wr1 (by omega)]
    refine ih _ ?_
    rw [mkR_set]
    refine mkR_congr fun x hx => ?_
    by_cases c : x = i
    · rw [if_pos c, if_pos (by omega), c]
    · rw [if_neg c]
      by_cases d : x < i
      · rw [if_pos d, if_pos (by omega)]
      · rw [if_neg d, if_neg (by omega)]
  · rintro rc l rfl
    unfold zz52_b3
    rw [cdf (by omega), zz52_a3, show (mkR n fun x => if x < n then (x : Int) else 0) = ptL n fun x => x from mkR_congr fun x hx => by rw [if_pos hx]]

theorem specIdentity_eq {n : Nat} (hn : n ≤ 1048576) : zz17 big (n : Int) = some (ptL n fun x => x, ()) := by
  unfold zz17 zz17_s
  refine zz17_h3 n (fun i l => l = ptL i fun x => x) (by omega) ?_ ?_ 0 (by omega) _ rfl
  · rintro rc i l hi rfl ih
    unfold zz17_b3
    rw [cdt (by omega), app1 (by rw [ptL_len]; omega), Option.bind_some, wr1 (by omega)]
    exact ih _ (by unfold ptL; rw [mkR_succ])
  · rintro rc l rfl
    unfold zz17_b3
    rw [cdf (by omega), zz17_a3]

abbrev bt1 (b i : Nat) : Prop := b / 2 ^ i % 2 = 1

theorem bits_ex (P : Nat → Bool) : ∀ k, ∃ b, b < 2 ^ k ∧ ∀ i, i < k → (bt1 b i ↔ P i = true)
  | 0 => ⟨0, by simp, fun i hi => by omega⟩
  | k + 1 => by
    obtain ⟨b, hb, h⟩ := bits_ex P k
    have hp : 2 ^ (k + 1) = 2 ^ k * 2 := Nat.pow_succ ..
    have low : ∀ e i, i < k → (b + 2 ^ k * e) / 2 ^ i % 2 = b / 2 ^ i % 2 := fun e i hi => by
      have e1 : 2 ^ k = 2 ^ i * (2 * 2 ^ (k - i - 1)) := by
        rw [← Nat.pow_succ', ← Nat.pow_add]; congr 1; omega
      rw [e1, Nat.mul_assoc, Nat.add_mul_div_left _ _ (Nat.pow_pos (by omega)), Nat.mul_assoc, Nat.add_mul_mod_self_left]
    have top : ∀ e, (b + 2 ^ k * e) / 2 ^ k = e := fun e => by
      rw [Nat.add_mul_div_left _ _ (Nat.pow_pos (by omega)), Nat.div_eq_of_lt hb, Nat.zero_add]
    refine ⟨b + 2 ^ k * (if P k then 1 else 0), by split <;> omega, fun i hi => ?_⟩
    by_cases c : i = k
    · subst c
      unfold bt1
      rw [top]
      cases P i <;> simp
    · unfold bt1
      rw [low _ i (by omega)]
      exact h i (by omega)

theorem l5Less_eq (a b : List Int) (h : a.length = b.length) (h2 : a.length ≤ 4294967296) : zz28 big a b = some (lx a b, ()) := by
  unfold zz28 zz28_s
  refine zz28_h2 a.length (fun i => lx a b = lx (a.drop i) (b.drop i)) (by omega) ?_ ?_ 0 (by omega) rfl
  · intro rc i hi hv ih
    have hib : i < b.length := by omega
    unfold zz28_b2
    simp only [cdt (show (i : Int) < (a.length : Int) by omega), atI_lt a i hi, atI_lt b i hib, Option.bind_some, wr1 (show i ≤ 4611686018427387904 by omega)]
    rw [lx_drop hi hib] at hv
    by_cases e : a[i] = b[i]
    · rw [cdf (by simp [e])]
      rw [if_neg (by simp [e])] at hv
      exact ih hv
    · rw [cdt e, hv, if_pos e]
  · intro rc hv
    rw [List.drop_length] at hv
    unfold zz28_b2
    rw [cdf (by omega), zz28_a2, hv]; rfl

inductive Wd where
  | v (n : Int)
  | op (g : Int) (a b : Wd)

def Wd.fl : Wd → List Int
  | .v n => [n]
  | .op g a b => g :: (a.fl ++ b.fl)

def Wd.ok : Wd → Prop
  | .v n => 0 ≤ n ∧ n < 5
  | .op g a b => (g = -1 ∨ g = -2) ∧ a.ok ∧ b.ok

theorem Wd.pos : ∀ A : Wd, 0 < A.fl.length
  | .v n => by simp [Wd.fl]
  | .op g a b => by simp [Wd.fl]

theorem fl_inj : ∀ (A B : Wd), A.ok → B.ok → ∀ (r r' : List Int), A.fl ++ r = B.fl ++ r' → A = B ∧ r = r'
  | .v x, .v y, _, _, r, r', h => by
    simp only [Wd.fl, List.cons_append, List.nil_append, List.cons.injEq] at h
    exact ⟨by rw [h.1], h.2⟩
  | .v x, .op g a b, ha, hb, r, r', h => by
    simp only [Wd.fl, List.cons_append, List.nil_append, List.cons.injEq] at h
    have h1 := ha.1
    have h2 := hb.1
    omega
  | .op g a b, .v x, ha, hb, r, r', h => by
    simp only [Wd.fl, List.cons_append, List.nil_append, List.cons.injEq] at h
    have h1 := ha.1
    have h2 := hb.1
    omega
  | .op g a b, .op g' a' b', ha, hb, r, r', h => by
    simp only [Wd.fl, List.cons_append, List.append_assoc, List.cons.injEq] at h
    obtain ⟨e0, h⟩ := h
    obtain ⟨e1, h⟩ := fl_inj a a' ha.2.1 hb.2.1 _ _ h
    obtain ⟨e2, h⟩ := fl_inj b b' ha.2.2 hb.2.2 _ _ h
    exact ⟨by rw [e0, e1, e2], h⟩

def At (s : List Int) (i : Nat) (A : Wd) : Prop := A.ok ∧ ∃ r, s.drop i = A.fl ++ r

theorem At.lt {s : List Int} {i : Nat} {A : Wd} (h : At s i A) : i + A.fl.length ≤ s.length := by
  obtain ⟨_, r, e⟩ := h
  have := congrArg List.length e
  have := A.pos
  simp only [List.length_drop, List.length_append] at *
  omega

abbrev BS := List Bool × List Nat

def stp (u : Nat → Nat → Bool) (x : Nat) (S : BS) (i : Nat) : BS := if S.1[i]? = some false ∧ (u x i || u i x) = true then (S.1.set i true, S.2 ++ [i]) else S

def insK (u : Nat → Nat → Bool) (x : Nat) (S : BS) : Nat → BS
  | 0 => S
  | k + 1 => stp u x (insK u x S k) k

def bfs (u : Nat → Nat → Bool) (m : Nat) (S : BS) : Nat → BS
  | 0 => S
  | i + 1 => match (bfs u m S i).2[i]? with
    | some x => insK u x (bfs u m S i) m
    | none => bfs u m S i

def ea (E : List P2) (i : Nat) : Nat := (E.getD i (0, 0, ())).1.toNat

def eb (E : List P2) (i : Nat) : Nat := (E.getD i (0, 0, ())).2.1.toNat

theorem rAll_step {α : Type} {L : List α} {p : α → Bool} {i : Nat} (hi : i < L.length) (h : ∀ x ∈ L.take i, p x = true) (hp : p L[i] = true) : ∀ x ∈ L.take (i + 1), p x = true := by
  intro x hx
  rw [List.take_succ_eq_append_getElem hi] at hx
  rcases List.mem_append.1 hx with hx | hx
  · exact h x hx
  · rw [List.mem_singleton] at hx
    rw [hx]; exact hp

theorem rAll_end {α : Type} {L : List α} {p : α → Bool} (h : ∀ x ∈ L.take L.length, p x = true) : L.all p = true := by
  rw [List.take_length] at h
  exact List.all_eq_true.2 h

theorem rAll_bad {α : Type} {L : List α} {p : α → Bool} {i : Nat} (hi : i < L.length) (hp : p L[i] = false) : L.all p = false := by
  rw [List.all_eq_false]
  exact ⟨_, List.getElem_mem hi, by rw [hp]; exact Bool.false_ne_true⟩

theorem ipow_le {n j : Nat} (h : n ≤ 8) (hj : j ≤ 3) : n ^ j ≤ 512 :=
  Nat.le_trans (Nat.pow_le_pow_left h j) (Nat.le_trans (Nat.pow_le_pow_right (by omega) hj) (by decide))

theorem ipow_eq {n : Nat} (h : n ≤ 8) (k : Nat) (hk : k ≤ 3) : zz49 big (n : Int) (k : Int) = some (((n ^ k : Nat) : Int), ()) := by
  unfold zz49 zz49_s
  refine zz49_w2 (fun k _ => k.toNat) (fun q o => ∃ j : Nat, j ≤ k ∧ q = ((k - j : Nat) : Int) ∧ o = ((n ^ j : Nat) : Int)) ?_ _ _ (by simp; omega) ⟨0, by omega, by simp, rfl⟩
  intro rc q o hv ih
  obtain ⟨j, hj, e1, e2⟩ := hv
  subst e1; subst e2
  unfold zz49_b2
  by_cases hjk : j < k
  · have hp := ipow_le h (show j + 1 ≤ 3 by omega)
    rw [Nat.pow_succ] at hp
    rw [cdt (by omega), wr (n := ((k - j : Nat) : Int) - 1) (by omega) (by omega), ← Int.natCast_mul, wr (n := ((n ^ j * n : Nat) : Int)) (by omega) (by omega)]
    exact ih _ _ ⟨j + 1, by omega, by omega, by rw [Nat.pow_succ]⟩ (by omega)
  · rw [cdf (by omega), zz49_a2, show j = k by omega]

def opB (n : Nat) (f : OpT) : Bool := decide (0 ≤ f.1 ∧ f.1 ≤ 3 ∧ f.2.1.length = n ^ f.1.toNat) && f.2.1.all (inB n)

theorem isOpB_eq {n : Nat} (h : n ≤ 8) (f : OpT) (hl : f.2.1.length ≤ 1048576) : zz50 f (n : Int) = some (opB n f, ()) := by
  unfold zz50 zz50_s opB
  by_cases h0 : 0 ≤ f.1
  · rw [cdt h0]
    by_cases h3 : f.1 ≤ 3
    · rw [cdt h3]
      have e := ipow_eq h f.1.toNat (by omega)
      rw [show ((f.1.toNat : Nat) : Int) = f.1 by omega] at e
      rw [e, Option.bind_some]
      by_cases hn : f.2.1.length = n ^ f.1.toNat
      · rw [cdt (by omega), inSize_eq n f.2.1 (by omega), Option.bind_some, decide_eq_true ⟨h0, h3, hn⟩, Bool.true_and]
      · rw [cdf (by omega), decide_eq_false (fun c => hn c.2.2), Bool.false_and]
    · rw [cdf h3, decide_eq_false (fun c => h3 c.2.1), Bool.false_and]
  · rw [cdf h0, decide_eq_false (fun c => h0 c.1), Bool.false_and]

def algB (a : AlT) : Bool := decide (1 ≤ a.1 ∧ a.1 ≤ 8 ∧ a.2.1.length ≤ 4) && a.2.1.all (opB a.1.toNat)

theorem isAlgB_eq (a : AlT) (h : SmallA a) : zz51 big a = some (algB a, ()) := by
  unfold zz51 zz51_s algB
  by_cases h1 : a.1 < 1
  · rw [cdt h1, decide_eq_false (by omega), Bool.false_and]
  · by_cases h8 : 8 < a.1
    · rw [cdf h1, cdt h8, decide_eq_false (by omega), Bool.false_and]
    · by_cases h4 : 4 < a.2.1.length
      · rw [cdf h1, cdf h8, cdt (by omega), decide_eq_false (by omega), Bool.false_and]
      · rw [cdf h1, cdf h8, cdf (by omega), decide_eq_true (by omega), Bool.true_and]
        refine zz51_h4 a.2.1.length (fun i => ∀ x ∈ a.2.1.take i, opB a.1.toNat x = true) (by omega) ?_ ?_ 0 (by omega) (by simp)
        · intro rc i hi hv ih
          have e := isOpB_eq (n := a.1.toNat) (by omega) a.2.1[i] (h.2 _ (List.getElem_mem hi))
          rw [show ((a.1.toNat : Nat) : Int) = a.1 by omega] at e
          unfold zz51_b4
          rw [cdt (by omega), atI_lt _ i hi, Option.bind_some, e, Option.bind_some, wr1 (by omega)]
          cases hb : opB a.1.toNat a.2.1[i] with
          | true => exact ih (rAll_step hi hv hb)
          | false => rw [rAll_bad hi hb]; rfl
        · intro rc hv
          unfold zz51_b4
          rw [cdf (by omega), zz51_a4, rAll_end hv]

theorem lx_cmp : ∀ {a b : List Int}, a.length = b.length → lx a b = decide (cmpL a b < 0)
  | [], [], _ => by simp [lx, cmpL]
  | [], _ :: _, h => by simp at h
  | _ :: _, [], h => by simp at h
  | x :: a, y :: b, h => by
    have ih := lx_cmp (a := a) (b := b) (by simpa using h)
    unfold lx cmpL
    by_cases e : x = y
    · rw [if_neg (by simp [e]), if_pos e]; exact ih
    · rw [if_pos e, if_neg e]
      by_cases l : x < y
      · rw [if_pos l]; simp [l]
      · rw [if_neg l]; simp [l]

theorem sortBy_len {c : List Int → List Int → Int} (h : CmpOk c) (l : List (List Int)) : (sortBy c l).length = l.length := (sortBy_perm h l).length_eq

theorem sortBy_mem {c : List Int → List Int → Int} (h : CmpOk c) {l : List (List Int)} {x : List Int} : x ∈ sortBy c l ↔ x ∈ l := (sortBy_perm h l).mem_iff

theorem sortRows_eq (c : List Int → List Int → Int) (l : List (List Int)) (h : l.length ≤ 4294967296) : sortRowsV c l = some ((), (sortBy c l, ())) := by unfold sortRowsV; rw [if_pos h]

noncomputable def hv (n : Nat) (H : Nat → Bool) (E : Nat → Prop) : List Bool := mkR n fun z => H z || tv (E z)

def joinF (n : Nat) (P Q : Nat → Nat) : Nat → Nat := (List.range n).foldl (fun R x => uni R x (Q x)) P

theorem joinU_pt {n : Nat} {Q : Nat → Nat} (hQ : Pt n Q) : ∀ (l : List Nat) (P : Nat → Nat), (∀ x ∈ l, x < n) → Pt n P → Pt n (l.foldl (fun R x => uni R x (Q x)) P)
  | [], P, _, hP => hP
  | x :: l, P, hl, hP => joinU_pt hQ l _ (fun y hy => hl y (List.mem_cons_of_mem _ hy)) (uni_pt hP (hl x (by simp)) (hQ.lt (hl x (by simp))))

theorem joinU_le {n : Nat} {Q : Nat → Nat} (hQ : Pt n Q) : ∀ (l : List Nat) (P : Nat → Nat), (∀ x ∈ l, x < n) → Pt n P → Lep n P (l.foldl (fun R x => uni R x (Q x)) P) ∧ ∀ x ∈ l, (l.foldl (fun R x => uni R x (Q x)) P) (Q x) = (l.foldl (fun R x => uni R x (Q x)) P) x
  | [], P, _, hP => ⟨Lep.refl hP, by simp⟩
  | x :: l, P, hl, hP => by
    have hx := hl x (by simp)
    have hu := uni_pt hP hx (hQ.lt hx)
    obtain ⟨h1, h2⟩ := joinU_le hQ l (uni P x (Q x)) (fun y hy => hl y (List.mem_cons_of_mem _ hy)) hu
    refine ⟨Lep.trans hP (le_uni hP x (Q x)) h1, fun y hy => ?_⟩
    rcases List.mem_cons.1 hy with rfl | hy
    · exact h1.ker (hQ.lt hx) hx (uni_eq P y (Q y)).symm
    · exact h2 y hy

theorem joinU_least {n : Nat} {Q C : Nat → Nat} (hQ : Pt n Q) (hc : Lep n Q C) : ∀ (l : List Nat) (P : Nat → Nat), (∀ x ∈ l, x < n) → Pt n P → Lep n P C → Lep n (l.foldl (fun R x => uni R x (Q x)) P) C
  | [], P, _, _, h => h
  | x :: l, P, hl, hP, h => by
    have hx := hl x (by simp)
    exact joinU_least hQ hc l _ (fun y hy => hl y (List.mem_cons_of_mem _ hy)) (uni_pt hP hx (hQ.lt hx)) (uni_le hP h hx (hQ.lt hx) (hc x hx).symm)

theorem join_pt {n : Nat} {P Q : Nat → Nat} (hP : Pt n P) (hQ : Pt n Q) : Pt n (joinF n P Q) := joinU_pt hQ _ _ (fun x hx => List.mem_range.1 hx) hP

theorem join_l {n : Nat} {P Q : Nat → Nat} (hP : Pt n P) (hQ : Pt n Q) : Lep n P (joinF n P Q) := (joinU_le hQ _ _ (fun x hx => List.mem_range.1 hx) hP).1

theorem join_r {n : Nat} {P Q : Nat → Nat} (hP : Pt n P) (hQ : Pt n Q) : Lep n Q (joinF n P Q) := fun x hx => (joinU_le hQ _ _ (fun x hx => List.mem_range.1 hx) hP).2 x (List.mem_range.2 hx)

theorem join_least {n : Nat} {P Q C : Nat → Nat} (hP : Pt n P) (hQ : Pt n Q) (h1 : Lep n P C) (h2 : Lep n Q C) : Lep n (joinF n P Q) C := joinU_least hQ h2 _ _ (fun x hx => List.mem_range.1 hx) hP h1

theorem join_cg {n : Nat} {fs : List (Nat → Nat → Nat)} (ho : Opn n fs) {P Q : Nat → Nat} (hP : Pt n P) (hQ : Pt n Q) (cP : Cg n fs P) (cQ : Cg n fs Q) : Cg n fs (joinF n P Q) := by
  have hR := join_pt hP hQ
  refine cg_of fun f hf x y hx hy => ⟨?_, ?_⟩
  · have : Lep n (joinF n P Q) (fun y => joinF n P Q (f x y)) := join_least hP hQ
      (fun z hz => (join_l hP hQ).ker (ho f hf x _ hx (hP.lt hz)) (ho f hf x z hx hz) (cg_xy cP hf hx hz).1.symm)
      (fun z hz => (join_r hP hQ).ker (ho f hf x _ hx (hQ.lt hz)) (ho f hf x z hx hz) (cg_xy cQ hf hx hz).1.symm)
    exact (this y hy).symm
  · have : Lep n (joinF n P Q) (fun x => joinF n P Q (f x y)) := join_least hP hQ
      (fun z hz => (join_l hP hQ).ker (ho f hf _ y (hP.lt hz) hy) (ho f hf z y hz hy) (cg_xy cP hf hz hy).2.symm)
      (fun z hz => (join_r hP hQ).ker (ho f hf _ y (hQ.lt hz) hy) (ho f hf z y hz hy) (cg_xy cQ hf hz hy).2.symm)
    exact (this x hx).symm

theorem uni_congr {n : Nat} {P P' : Nat → Nat} (e : ∀ x, x < n → P x = P' x) {x y : Nat} (hx : x < n) (hy : y < n) : ∀ z, z < n → uni P x y z = uni P' x y z := fun z hz => by
  unfold uni; rw [e x hx, e y hy, e z hz]

theorem joinU_congr {n : Nat} {Q Q' : Nat → Nat} (hQ : Pt n Q) (eQ : ∀ x, x < n → Q x = Q' x) : ∀ (l : List Nat) (P P' : Nat → Nat), (∀ x ∈ l, x < n) → (∀ x, x < n → P x = P' x) → ∀ z, z < n → l.foldl (fun R x => uni R x (Q x)) P z = l.foldl (fun R x => uni R x (Q' x)) P' z
  | [], _, _, _, e => e
  | x :: l, P, P', hl, e => by
    have hx := hl x (by simp)
    have := joinU_congr hQ eQ l (uni P x (Q x)) (uni P' x (Q' x)) (fun y hy => hl y (List.mem_cons_of_mem _ hy)) (by rw [← eQ x hx]; exact uni_congr e hx (hQ.lt hx))
    exact this

def fnL (l : List Int) (x : Nat) : Nat := (l.getD x 0).toNat

theorem fnL_ptL {n : Nat} {P : Nat → Nat} {x : Nat} (hx : x < n) : fnL (ptL n P) x = P x := by
  unfold fnL ptL
  rw [List.getD_eq_getElem?_getD, get_mkR hx]; simp

def Jl (n : Nat) (a b : List Int) : List Int := ptL n (joinF n (fnL a) (fnL b))

theorem Jl_eq {n : Nat} {P Q : Nat → Nat} (hQ : Pt n Q) : Jl n (ptL n P) (ptL n Q) = ptL n (joinF n P Q) :=
  ptL_congr fun z hz => (joinU_congr hQ (fun x hx => (fnL_ptL hx).symm) _ P (fnL (ptL n P)) (fun x hx => List.mem_range.1 hx) (fun x hx => (fnL_ptL hx).symm) z hz).symm

theorem joinF_take {n : Nat} {P Q : Nat → Nat} {i : Nat} (hi : i < n) : (List.range (i + 1)).foldl (fun R x => uni R x (Q x)) P = uni ((List.range i).foldl (fun R x => uni R x (Q x)) P) i (Q i) := by
  rw [List.range_succ, List.foldl_append]; rfl

theorem implJoin_eq2 {n : Nat} {P Q : Nat → Nat} (hn : n ≤ 1048576) (hQ : Pt n Q) : zz58 big (ptL n P) (ptL n Q) = some (ptL n (joinF n P Q), ()) := by
  unfold zz58 zz58_s
  rw [clone_eq _ (by rw [ptL_len]; omega), Option.bind_some, ptL_len]
  refine zz58_h3 n (fun i l => l = ptL n ((List.range i).foldl (fun R x => uni R x (Q x)) P)) (by omega) ?_ ?_ 0 (by omega) _ rfl
  · rintro rc i l hi rfl ih
    have hq : atI (ptL n Q) (i : Int) = some ((Q i : Nat) : Int) := atI_mkR hi
    unfold zz58_b3
    rw [cdt (by omega), hq, Option.bind_some, unite_eq hn hi (hQ.lt hi), Option.bind_some, wr1 (by omega)]
    exact ih _ (by rw [joinF_take hi])
  · rintro rc l rfl
    unfold zz58_b3
    rw [cdf (by omega), zz58_a3]; rfl

theorem specJoin_eq2 {n : Nat} {P Q : Nat → Nat} (hn : n ≤ 1048576) (hQ : Pt n Q) : zz31 big (ptL n P) (ptL n Q) = some (ptL n (joinF n P Q), ()) := by
  unfold zz31 zz31_s
  rw [l1Own_eq _ (by rw [ptL_len]; omega), Option.bind_some]
  refine zz31_h3 n (fun i l => l = ptL n ((List.range i).foldl (fun R x => uni R x (Q x)) P)) (by omega) ?_ ?_ 0 (by omega) _ rfl
  · rintro rc i l hi rfl ih
    have hq : atI (ptL n Q) (i : Int) = some ((Q i : Nat) : Int) := atI_mkR hi
    unfold zz31_b3
    rw [ptL_len, cdt (by omega), hq, Option.bind_some, specUnite_eq hn hi (hQ.lt hi), Option.bind_some, wr1 (by omega)]
    exact ih _ (by rw [joinF_take hi])
  · rintro rc l rfl
    unfold zz31_b3
    rw [ptL_len, cdf (by omega), zz31_a3]; rfl

noncomputable def prinL (n : Nat) (fs : List (Nat → Nat → Nat)) (x y : Nat) : List Int := ptL n (lcO n fs (uni (fun z => z) x y))

theorem prin_lc {n : Nat} {fs : List (Nat → Nat → Nat)} (h10 : n ≤ 10) (hn : 0 < n) (hfl : fs.length ≤ 10) (ho : Opn n fs) {x y : Nat} (hx : x < n) (hy : y < n) : LeastC n fs (uni (fun z => z) x y) (lcO n fs (uni (fun z => z) x y)) := by
  obtain ⟨O, _, hO⟩ := specClose_eq (fs := fs) h10 hn hfl ho (uni_pt (id_pt n) hx hy)
  exact lcO_spec hO

theorem prin_comm (n : Nat) (fs : List (Nat → Nat → Nat)) (x y : Nat) : prinL n fs x y = prinL n fs y x := by unfold prinL; rw [uni_comm]

theorem specPrin_eq {n : Nat} {fs : List (Nat → Nat → Nat)} (h10 : n ≤ 10) (hn : 0 < n) (hfl : fs.length ≤ 10) (ho : Opn n fs) {x y : Nat} (hx : x < n) (hy : y < n) : zz26 (algL n fs) (x : Int) (y : Int) = some (prinL n fs x y, ()) := by
  obtain ⟨O, e, hO⟩ := specClose_eq (fs := fs) h10 hn hfl ho (uni_pt (id_pt n) hx hy)
  unfold zz26 zz26_s
  rw [show (algL n fs).1 = (n : Int) from rfl, specIdentity_eq (by omega), Option.bind_some, specUnite_eq (by omega) hx hy, Option.bind_some, e, Option.bind_some]
  unfold prinL
  rw [lcO_eq hO]

theorem implPrin_eq {n : Nat} {fs : List (Nat → Nat → Nat)} (h10 : n ≤ 10) (hn : 0 < n) (hfl : fs.length ≤ 10) (ho : Opn n fs) {x y : Nat} (hx : x < n) (hy : y < n) : zz55 big (algL n fs) [((x : Int), ((y : Int), ()))] = some (prinL n fs x y, ()) := by
  obtain ⟨was, q, e, hq⟩ := close_eq (fs := fs) h10 hn hfl ho (uni_pt (id_pt n) hx hy)
  have hl : LeastC n fs (uni (fun z => z) x y) q := ⟨hq.pt, hq.le, hq.lst, hq.cg⟩
  unfold zz55 zz55_s
  rw [show (algL n fs).1 = (n : Int) from rfl, identityOf_eq (by omega), Option.bind_some]
  refine zz55_h3 1 (fun i l => l = ptL n (if i = 0 then (fun z => z) else uni (fun z => z) x y)) (by omega) ?_ ?_ 0 (by omega) _ rfl
  · rintro rc i l hi rfl ih
    have : i = 0 := by omega
    subst this
    unfold zz55_b3
    rw [cdt (by simp), show atI [((x : Int), ((y : Int), ()))] ((0 : Nat) : Int) = some ((x : Int), ((y : Int), ())) from rfl, Option.bind_some, if_pos rfl, unite_eq (by omega) hx hy, Option.bind_some, wr1 (by omega)]
    exact ih _ rfl
  · rintro rc l rfl
    unfold zz55_b3
    rw [cdf (by simp), zz55_a3, if_neg (by omega), e, Option.bind_some]
    unfold prinL
    rw [← lcO_eq hl]

def GP (n : Nat) (fs : List (Nat → Nat → Nat)) (g : List Int) : Prop := ∃ x y, x < y ∧ y < n ∧ g = prinL n fs x y

inductive Rch (n : Nat) (fs : List (Nat → Nat → Nat)) : List Int → Prop where
  | id : Rch n fs (ptL n fun x => x)
  | step {a g : List Int} (h : Rch n fs a) (hg : GP n fs g) : Rch n fs (Jl n a g)

theorem id_cg {n : Nat} {fs : List (Nat → Nat → Nat)} : Cg n fs (fun x => x) := cg_of fun f hf x y hx hy => ⟨rfl, rfl⟩

theorem GP.cong {n : Nat} {fs : List (Nat → Nat → Nat)} (h10 : n ≤ 10) (hn : 0 < n) (hfl : fs.length ≤ 10) (ho : Opn n fs) {g : List Int} (h : GP n fs g) : CongL n fs g := by
  obtain ⟨x, y, h1, h2, rfl⟩ := h
  have := prin_lc (fs := fs) h10 hn hfl ho (show x < n by omega) h2
  exact ⟨_, this.pt, rfl, this.cg⟩

theorem Jl_cong {n : Nat} {fs : List (Nat → Nat → Nat)} (ho : Opn n fs) {a b : List Int} (ha : CongL n fs a) (hb : CongL n fs b) : CongL n fs (Jl n a b) := by
  obtain ⟨P, p1, rfl, p3⟩ := ha
  obtain ⟨Q, q1, rfl, q3⟩ := hb
  rw [Jl_eq q1]
  exact ⟨_, join_pt p1 q1, rfl, join_cg ho p1 q1 p3 q3⟩

theorem Rch.cong {n : Nat} {fs : List (Nat → Nat → Nat)} (h10 : n ≤ 10) (hn : 0 < n) (hfl : fs.length ≤ 10) (ho : Opn n fs) {a : List Int} (h : Rch n fs a) : CongL n fs a := by
  induction h with
  | id => exact ⟨_, id_pt n, rfl, id_cg⟩
  | step h hg ih => exact Jl_cong ho ih (hg.cong h10 hn hfl ho)

theorem Rch.of_closed {n : Nat} {fs : List (Nat → Nat → Nat)} {L : List (List Int)} (h0 : (ptL n fun x => x) ∈ L) (h1 : ∀ a ∈ L, ∀ g, GP n fs g → Jl n a g ∈ L) {a : List Int} (h : Rch n fs a) : a ∈ L := by
  induction h with
  | id => exact h0
  | step h hg ih => exact h1 _ ih _ hg

theorem list_of {α : Type} (S : α → Prop) (B : Nat) (hB : ∀ L : List α, L.Nodup → (∀ a ∈ L, S a) → L.length ≤ B) : ∃ L : List α, L.Nodup ∧ ∀ a, a ∈ L ↔ S a := by
  have key : ∀ k (L : List α), L.Nodup → (∀ a ∈ L, S a) → B ≤ L.length + k → ∃ L : List α, L.Nodup ∧ ∀ a, a ∈ L ↔ S a := by
    intro k
    induction k with
    | zero =>
      intro L h1 h2 h3
      refine ⟨L, h1, fun a => ⟨h2 a, fun ha => Classical.byContradiction fun q => ?_⟩⟩
      have := hB (a :: L) (List.nodup_cons.2 ⟨q, h1⟩) (fun b hb => (List.mem_cons.1 hb).elim (fun e => e ▸ ha) (h2 b))
      simp only [List.length_cons] at this; omega
    | succ k ih =>
      intro L h1 h2 h3
      by_cases q : ∃ a, S a ∧ a ∉ L
      · obtain ⟨a, ha, q⟩ := q
        exact ih (a :: L) (List.nodup_cons.2 ⟨q, h1⟩) (fun b hb => (List.mem_cons.1 hb).elim (fun e => e ▸ ha) (h2 b)) (by simp only [List.length_cons]; omega)
      · exact ⟨L, h1, fun a => ⟨h2 a, fun ha => Classical.byContradiction fun z => q ⟨a, ha, z⟩⟩⟩
  exact key B [] List.nodup_nil (by simp) (by simp)

theorem nodup_perm {α : Type} {L M : List α} (h1 : L.Nodup) (h2 : M.Nodup) (h : ∀ a, a ∈ L ↔ a ∈ M) : L.Perm M := (List.perm_ext_iff_of_nodup h1 h2).2 h

def kyB (x : Int) : List Int := [IntKind.u8.wrap (x.fdiv 256), IntKind.u8.wrap x]

def keyL (l : List Int) : List UInt8 := (l.flatMap kyB).map fun n => UInt8.ofNat n.toNat

theorem flatMap_snoc {α β : Type} (f : α → List β) (l : List α) (x : α) : (l ++ [x]).flatMap f = l.flatMap f ++ f x := by simp

theorem kyB_len : ∀ (l : List Int), (l.flatMap kyB).length = 2 * l.length
  | [] => rfl
  | x :: l => by simp only [List.flatMap_cons, List.length_append, kyB_len l, List.length_cons]; simp [kyB]; omega

theorem shr8 (x : Int) : shrI IntKind.i64 x 8 = some (x.fdiv 256) := rfl

theorem keyOf_eq {l : List Int} (hl : l.length ≤ 1048576) (hx : ∀ x ∈ l, 0 ≤ x ∧ x ≤ 1000) : zz56 big l = some (keyL l, ()) := by
  unfold zz56 zz56_s
  rw [wr (by omega) (by omega), show (2 : Int) * (l.length : Int) = ((2 * l.length : Nat) : Int) by omega, mkI_nat _ _ (by omega), Option.bind_some, show ((0 : Int)) = ((0 : Nat) : Int) from rfl, mkI_nat _ _ (by omega), Option.bind_some, cdt (by omega)]
  refine zz56_h3 l.length (fun i b => b = (l.take i).flatMap kyB) (by omega) ?_ ?_ 0 (by omega) _ rfl
  · rintro rc i b hi rfl ih
    have hxi := hx _ (List.getElem_mem hi)
    have hkl : ((l.take i).flatMap kyB).length ≤ 2097152 := by rw [kyB_len, List.length_take]; omega
    have hd : l[i].fdiv 256 = l[i] / 256 := Int.fdiv_eq_ediv_of_nonneg _ (by omega)
    unfold zz56_b3
    rw [cdt (by omega), atI_lt l i hi, Option.bind_some, shr8, Option.bind_some]
    have ha : appI ((l.take i).flatMap kyB) [IntKind.u8.wrap (l[i].fdiv 256), IntKind.u8.wrap l[i]] = some ((l.take i).flatMap kyB ++ kyB l[i]) := by
      unfold appI
      rw [if_pos (by simp only [List.length_cons, List.length_nil]; omega)]; rfl
    rw [ha, Option.bind_some, wr1 (by omega)]
    refine ih _ ?_
    rw [List.take_succ_eq_append_getElem hi, flatMap_snoc]
  · rintro rc b rfl
    unfold zz56_b3
    rw [cdf (by omega), zz56_a3, List.take_length]; rfl

theorem u8w {x : Int} (h1 : 0 ≤ x) (h2 : x ≤ 255) : IntKind.u8.wrap x = x := by
  unfold IntKind.wrap
  simp [IntKind.bits, IntKind.signed]
  omega

theorem keyL_cons {x : Int} (h1 : 0 ≤ x) (h2 : x ≤ 255) (l : List Int) : keyL (x :: l) = 0 :: UInt8.ofNat x.toNat :: keyL l := by
  have hd : x.fdiv 256 = 0 := by rw [Int.fdiv_eq_ediv_of_nonneg _ (by omega)]; omega
  unfold keyL
  rw [List.flatMap_cons, List.map_append]
  unfold kyB
  rw [hd, u8w (by omega) (by omega), u8w h1 h2]
  rfl

theorem keyL_inj : ∀ {l m : List Int}, (∀ x ∈ l, 0 ≤ x ∧ x ≤ 255) → (∀ x ∈ m, 0 ≤ x ∧ x ≤ 255) → keyL l = keyL m → l = m
  | [], [], _, _, _ => rfl
  | [], y :: m, _, h2, e => by
    rw [keyL_cons (h2 y (by simp)).1 (h2 y (by simp)).2] at e
    simp [keyL] at e
  | x :: l, [], h1, _, e => by
    rw [keyL_cons (h1 x (by simp)).1 (h1 x (by simp)).2] at e
    simp [keyL] at e
  | x :: l, y :: m, h1, h2, e => by
    have hx := h1 x (by simp)
    have hy := h2 y (by simp)
    rw [keyL_cons hx.1 hx.2, keyL_cons hy.1 hy.2] at e
    simp only [List.cons.injEq, true_and] at e
    have e1 := congrArg UInt8.toNat e.1
    rw [UInt8.toNat_ofNat', UInt8.toNat_ofNat', Nat.mod_eq_of_lt (by omega), Nat.mod_eq_of_lt (by omega)] at e1
    rw [show x = y by omega, keyL_inj (fun z hz => h1 z (List.mem_cons_of_mem _ hz)) (fun z hz => h2 z (List.mem_cons_of_mem _ hz)) e.2]

theorem mgetS_mput (m : List (List UInt8 × Bool)) (a b : List UInt8) : mget .str .bool (mput .str .bool m a true) b = if b = a then some true else mget .str .bool m b := by
  induction m with
  | nil =>
    simp only [mput, mget, eqD]
    by_cases e : b = a
    · rw [cdt e, if_pos e]
    · rw [cdf e, if_neg e]
  | cons p m ih =>
    obtain ⟨k, v⟩ := p
    simp only [mput, eqD]
    by_cases e : a = k
    · rw [cdt e]
      simp only [mget, eqD]
      by_cases e2 : b = a
      · rw [cdt e2, if_pos e2]
      · rw [cdf e2, if_neg e2, cdf (by rw [← e]; exact e2)]
    · rw [cdf e]
      simp only [mget, eqD]
      by_cases e2 : b = k
      · rw [cdt e2, cdt e2, if_neg (by rw [e2]; exact fun q => e q.symm)]
      · rw [cdf e2, cdf e2, ih]

theorem bcFrom_append : ∀ (l m : List Int) (i : Nat), bcFrom i (l ++ m) = bcFrom i l + bcFrom (i + l.length) m
  | [], m, i => by simp [bcFrom]
  | x :: l, m, i => by
    rw [List.cons_append, bcFrom, bcFrom, bcFrom_append l m (i + 1), List.length_cons, show i + 1 + l.length = i + (l.length + 1) by omega]; omega

theorem bcFrom_bd : ∀ (l : List Int) (i : Nat), 0 ≤ bcFrom i l ∧ bcFrom i l ≤ l.length
  | [], i => by simp [bcFrom]
  | x :: l, i => by
    have := bcFrom_bd l (i + 1)
    rw [bcFrom, List.length_cons]; split <;> omega

theorem l6Count_eq (l : List Int) (hl : l.length ≤ 1048576) : zz27 big l = some (bcFrom 0 l, ()) := by
  unfold zz27 zz27_s
  refine zz27_h3 l.length (fun i m => m = bcFrom 0 (l.take i)) (by omega) ?_ ?_ 0 (by omega) _ rfl
  · rintro rc i m hi rfl ih
    have hb := bcFrom_bd (l.take i) 0
    have hlt : (l.take i).length ≤ 1048576 := by rw [List.length_take]; omega
    have hs : bcFrom 0 (l.take (i + 1)) = bcFrom 0 (l.take i) + (if l[i] = (i : Int) then 1 else 0) := by
      rw [List.take_succ_eq_append_getElem hi, bcFrom_append, List.length_take, show 0 + min i l.length = i by omega]
      simp [bcFrom]
    unfold zz27_b3
    rw [cdt (by omega), atI_lt l i hi, Option.bind_some, wr1 (by omega)]
    by_cases e : l[i] = (i : Int)
    · rw [cdt e, wr (by omega) (by omega)]
      exact ih _ (by rw [hs, if_pos e])
    · rw [cdf e]
      exact ih _ (by rw [hs, if_neg e]; omega)
  · rintro rc m rfl
    unfold zz27_b3
    rw [cdf (by omega), zz27_a3, List.take_length]

theorem ltC_eq {x y : List Int} (h : x.length = y.length) : ltOf cmpC x y = (decide (bcFrom 0 y < bcFrom 0 x) || (decide (bcFrom 0 x = bcFrom 0 y) && lx x y)) := by
  unfold ltOf cmpC
  rw [lx_cmp h]
  by_cases c : bcFrom 0 y - bcFrom 0 x = 0
  · rw [if_pos c, decide_eq_false (show ¬ bcFrom 0 y < bcFrom 0 x by omega), decide_eq_true (show bcFrom 0 x = bcFrom 0 y by omega), Bool.false_or, Bool.true_and]
  · rw [if_neg c, decide_eq_false (show ¬ bcFrom 0 x = bcFrom 0 y by omega), Bool.false_and, Bool.or_false]
    exact decide_eq_decide.2 (by omega)

theorem put_fin {ls : List (List Int)} {l : List Int} (hs : SortedL cmpC ls) {m : Nat} (hm : m ≤ ls.length) (h1 : ∀ (j : Nat) (hj : j < ls.length), j < m → ltOf cmpC ls[j] l = true) (h2 : ∀ (hk : m < ls.length), ltOf cmpC l ls[m] = true) :
    ls.take m ++ [l] ++ ls.drop m = insBy cmpC l ls := by
  refine sorted_unique cmpC_ok ?_ ?_ (insBy_sorted cmpC_ok l ls hs)
  · refine List.Perm.trans ?_ (insBy_perm l ls).symm
    rw [List.append_assoc, List.singleton_append]
    refine List.perm_middle.trans ?_
    rw [List.take_append_drop]
  · have hs' : SortedL cmpC (ls.take m ++ ls.drop m) := by rw [List.take_append_drop]; exact hs
    obtain ⟨s1, s2, s3⟩ := List.pairwise_append.1 hs'
    have asym : ∀ x y, ltOf cmpC x y = true → ltOf cmpC y x = false := fun x y q => by
      cases z : ltOf cmpC y x with
      | false => rfl
      | true => have := lt_tr cmpC_ok _ _ _ q z; rw [lt_irr cmpC_ok] at this; cases this
    have e1 : ∀ x ∈ ls.take m, ltOf cmpC l x = false := fun x hx => by
      obtain ⟨j, hj, rfl⟩ := List.mem_iff_getElem.1 hx
      rw [List.length_take] at hj
      rw [List.getElem_take]
      exact asym _ _ (h1 j (by omega) (by omega))
    have e2 : ∀ x ∈ ls.drop m, ltOf cmpC x l = false := fun x hx => by
      obtain ⟨j, hj, rfl⟩ := List.mem_iff_getElem.1 hx
      rw [List.length_drop] at hj
      rw [List.getElem_drop]
      have hml : m < ls.length := by omega
      by_cases q : j = 0
      · subst q; exact asym _ _ (h2 hml)
      · exact lt_ntr cmpC_ok _ _ _ ((List.pairwise_iff_getElem.1 hs) m (m + j) (by omega) (by omega) (by omega)) (asym _ _ (h2 hml))
    unfold SortedL
    rw [List.append_assoc, List.singleton_append, List.pairwise_append]
    refine ⟨s1, List.pairwise_cons.2 ⟨e2, s2⟩, fun x hx y hy => ?_⟩
    rcases List.mem_cons.1 hy with rfl | hy
    · exact e1 x hx
    · exact s3 x hx y hy

open Classical in

theorem put6_eq {ls : List (List Int)} {l : List Int} (hl : l.length ≤ 1048576) (hls : ls.length ≤ 1048576) (he : ∀ x ∈ ls, x.length = l.length) (hs : SortedL cmpC ls) (hn : ls.Nodup) : zz30 big ls l = some (if l ∈ ls then ls else insBy cmpC l ls, ()) := by
  have tail : ∀ k : Nat, k ≤ ls.length → (∀ (j : Nat) (hj : j < ls.length), j < k → ltOf cmpC ls[j] l = true) → (∀ (hk : k < ls.length), ltOf cmpC ls[k] l = false) → zz30_a2 ls l (k : Int) = some (if l ∈ ls then ls else insBy cmpC l ls, ()) := by
    intro k hk h1 h2
    have e1 : slI ls 0 (k : Int) = some (ls.take k) := by have := slI_nat ls 0 k (by omega) hk; simpa using this
    have e2 : slI ls (k : Int) (ls.length : Int) = some (ls.drop k) := by
      have := slI_nat ls k ls.length hk (Nat.le_refl _)
      rw [this, List.take_of_length_le (by rw [List.length_drop]; omega)]
    have hlt : (ls.take k).length ≤ ls.length := by rw [List.length_take]; omega
    have a1 : appI ([] : List (List Int)) (ls.take k) = some (ls.take k) := by
      unfold appI; rw [if_pos (by simp; omega)]; rfl
    have a2 : appI (ls.take k ++ [l]) (ls.drop k) = some (ls.take k ++ [l] ++ ls.drop k) := by
      unfold appI
      rw [if_pos (by rw [List.length_append, List.length_drop, List.length_take]; simp; omega)]
    have nin : (∀ hk : k < ls.length, ls[k] ≠ l) → l ∉ ls := fun q hm => by
      obtain ⟨j, hj, e⟩ := List.getElem_of_mem hm
      rcases Nat.lt_trichotomy j k with z | z | z
      · have := h1 j hj z; rw [e, lt_irr cmpC_ok] at this; cases this
      · subst z; exact q hj e
      · have hk' : k < ls.length := by omega
        have := (List.pairwise_iff_getElem.1 hs) k j hk' hj z
        rw [e] at this
        exact q hk' (lt_anti cmpC_ok _ _ (h2 hk') this)
    unfold zz30_a2
    by_cases c : k < ls.length
    · rw [cdt (by omega), atI_lt ls k c, Option.bind_some, l1Same_eq _ _ (by rw [he _ (List.getElem_mem c)]; omega), Option.bind_some]
      by_cases e : ls[k] = l
      · rw [cdt e, if_pos (e ▸ List.getElem_mem c)]
      · have hni := nin fun _ => e
        rw [cdf e, if_neg hni, e1, Option.bind_some, a1, Option.bind_some, app1 (by omega), Option.bind_some, e2, Option.bind_some, a2, Option.bind_some, put_fin hs hk h1 fun hk' => ?_]
        cases q : ltOf cmpC l ls[k] with
        | true => rfl
        | false => exact absurd (lt_anti cmpC_ok _ _ (h2 hk') q) e
    · have hni := nin fun q => absurd q c
      rw [cdf (by omega), if_neg hni, e1, Option.bind_some, a1, Option.bind_some, app1 (by omega), Option.bind_some, e2, Option.bind_some, a2, Option.bind_some, put_fin hs hk h1 fun hk' => absurd hk' c]
  unfold zz30 zz30_s
  have hex : ∃ m : Nat, m ≤ ls.length ∧ (∀ (j : Nat) (hj : j < ls.length), j < m → ltOf cmpC ls[j] l = true) ∧ ∀ (hk : m < ls.length), ltOf cmpC ls[m] l = false := by
    have : ∀ k, k ≤ ls.length → (∃ m : Nat, m ≤ ls.length ∧ (∀ (j : Nat) (hj : j < ls.length), j < m → ltOf cmpC ls[j] l = true) ∧ ∀ (hk : m < ls.length), ltOf cmpC ls[m] l = false) ∨ ∀ (j : Nat) (hj : j < ls.length), j < k → ltOf cmpC ls[j] l = true := by
      intro k
      induction k with
      | zero => exact fun _ => .inr fun j hj q => absurd q (by omega)
      | succ k ih =>
        intro hk
        rcases ih (by omega) with q | q
        · exact .inl q
        · cases z : ltOf cmpC ls[k] l with
          | false => exact .inl ⟨k, by omega, q, fun _ => z⟩
          | true =>
            refine .inr fun j hj hjk => ?_
            by_cases w : j = k
            · subst w; exact z
            · exact q j hj (by omega)
    rcases this ls.length (Nat.le_refl _) with q | q
    · exact q
    · exact ⟨ls.length, Nat.le_refl _, fun j hj _ => q j hj hj, fun q => absurd q (by omega)⟩
  obtain ⟨m, hm, h1, h2⟩ := hex
  refine zz30_h2 m (fun _ => True) (by omega) ?_ ?_ 0 (by omega) trivial
  · intro rc i hi _ ih
    have hil : i < ls.length := by omega
    have hei := he _ (List.getElem_mem hil)
    have hlt := h1 i hil hi
    rw [ltC_eq hei] at hlt
    unfold zz30_b2
    rw [cdt (by omega), atI_lt ls i hil, Option.bind_some, l6Count_eq _ (by omega), Option.bind_some, l6Count_eq _ hl, Option.bind_some, wr1 (by omega)]
    by_cases c : bcFrom 0 l < bcFrom 0 ls[i]
    · rw [cdt c]; exact ih trivial
    · rw [cdf c, Option.bind_some, l6Count_eq _ (by omega), Option.bind_some, Option.bind_some]
      rw [decide_eq_false c, Bool.false_or, Bool.and_eq_true, decide_eq_true_eq] at hlt
      rw [cdt hlt.1, Option.bind_some, l5Less_eq _ _ hei (by omega), Option.bind_some, hlt.2, cond_true]
      exact ih trivial
  · intro rc _
    unfold zz30_b2
    by_cases c : m < ls.length
    · have hei := he _ (List.getElem_mem c)
      have hlt := h2 c
      rw [ltC_eq hei, Bool.or_eq_false_iff, decide_eq_false_iff_not] at hlt
      rw [cdt (by omega), atI_lt ls m c, Option.bind_some, l6Count_eq _ (by omega), Option.bind_some, l6Count_eq _ hl, Option.bind_some, cdf hlt.1, Option.bind_some, l6Count_eq _ (by omega), Option.bind_some, Option.bind_some]
      by_cases e : bcFrom 0 ls[m] = bcFrom 0 l
      · have hx := hlt.2
        rw [decide_eq_true e, Bool.true_and] at hx
        rw [cdt e, Option.bind_some, l5Less_eq _ _ hei (by omega), Option.bind_some, hx, cond_false]
        exact tail m hm h1 h2
      · rw [cdf e]; exact tail m hm h1 h2
    · rw [cdf (by omega)]; exact tail m hm h1 h2

theorem ls_iff {le : Nat → Nat → Bool} {x y : Nat} : ls le x y = true ↔ x ≠ y ∧ le x y = true := by unfold ls; simp

theorem fl_one {n : Nat} {P : Nat → Bool} {s : Nat} (hs : s < n) (h : ∀ x, x < n → (P x = true ↔ x = s)) : fl n P = [s] := by
  have hpw : (fl n P).Pairwise (· < ·) := List.Pairwise.filter _ List.pairwise_lt_range
  have h1 : ∀ x, x ∈ fl n P ↔ x = s := fun x => by
    rw [fl_mem]
    exact ⟨fun q => (h x q.1).1 q.2, fun q => ⟨q ▸ hs, (h x (q ▸ hs)).2 q⟩⟩
  cases e : fl n P with
  | nil => have := (h1 s).2 rfl; rw [e] at this; cases this
  | cons a l =>
    have ea : a = s := (h1 a).1 (by rw [e]; simp)
    cases l with
    | nil => rw [ea]
    | cons b l =>
      have eb : b = s := (h1 b).1 (by rw [e]; simp)
      rw [e] at hpw
      have := (List.pairwise_cons.1 hpw).1 b (by simp)
      omega

theorem irr_of {n : Nat} {le : Nat → Nat → Bool} (h : LatP n le) {j s : Nat} (hj : j < n) (hs : s < n) (h1 : ls le s j = true) (h2 : ∀ z, z < n → ls le z j = true → le z s = true) : irr n le j = true ∧ star n le j = s := by
  have e : (fl n fun x => cov n le x j) = [s] := fl_one hs fun x hx => by
    constructor
    · intro hc
      apply Classical.byContradiction
      intro q
      have hl := cov_ls hc
      rw [cov_f hs (ls_iff.2 ⟨q, h2 x hx hl⟩) h1] at hc
      cases hc
    · rintro rfl
      refine cov_t h1 fun z hz q => ?_
      have q1 := ls_iff.1 q.1
      exact q1.1 (h.as hx hz q1.2 (h2 z hz q.2))
  refine ⟨?_, ?_⟩
  · unfold irr; rw [e]; rfl
  · unfold star; rw [e]; rfl

theorem least_not {n : Nat} {le : Nat → Nat → Bool} (h : LatP n le) {a : Nat} (ha : a < n) : ∀ (k b : Nat), b < n → (fl n fun z => le z b).length ≤ k → le b a ≠ true → ∃ j, j < n ∧ le j b = true ∧ le j a ≠ true ∧ ∀ z, z < n → ls le z j = true → le z a = true
  | 0, b, hb, hk, _ => by
    have : b ∈ fl n fun z => le z b := fl_mem.2 ⟨hb, h.ord.refl b hb⟩
    have := List.length_pos_of_mem this
    omega
  | k + 1, b, hb, hk, hab => by
    by_cases q : ∀ z, z < n → ls le z b = true → le z a = true
    · exact ⟨b, hb, h.ord.refl b hb, hab, q⟩
    · obtain ⟨z, hz⟩ := Classical.not_forall.1 q
      obtain ⟨hz, q⟩ := Classical.not_imp.1 hz
      obtain ⟨q1, q2⟩ := Classical.not_imp.1 q
      have q3 := ls_iff.1 q1
      have hlt : (fl n fun y => le y z).length < (fl n fun y => le y b).length :=
        fl_lt (fun y hy hyz => h.tr hy hz hb hyz q3.2) hb (h.ord.refl b hb) (by
          cases w : le b z with
          | false => rfl
          | true => exact absurd (h.as hz hb q3.2 w) q3.1)
      obtain ⟨j, j1, j2, j3, j4⟩ := least_not h ha k z hz (by omega) q2
      exact ⟨j, j1, h.tr j1 hz hb j2 q3.2, j3, j4⟩

theorem m_le {n : Nat} {le : Nat → Nat → Bool} (h : LatP n le) {x y : Nat} (hx : x < n) (hy : y < n) (e : le x y = true) : mt n le x y = x :=
  h.as (h.mlt hx hy) hx (h.m1 hx hy) (h.mg hx hy hx (h.ord.refl x hx) e)

theorem j_le {n : Nat} {le : Nat → Nat → Bool} (h : LatP n le) {x y : Nat} (hx : x < n) (hy : y < n) (e : le y x = true) : mt n (du le) x y = x := m_le h.du hx hy e

theorem cong_up {n : Nat} {le : Nat → Nat → Bool} (h : LatP n le) {P Q : Nat → Nat} (hP : Pt n P) (hQ : Pt n Q) (cP : Cg n (latF n le) P) (cQ : Cg n (latF n le) Q)
    (hc : ∀ j, j < n → irr n le j = true → P j = P (star n le j) → Q j = Q (star n le j)) {b : Nat} (hb : b < n) :
    ∀ (k a : Nat), a < n → le a b = true → (fl n fun z => le z b && !le z a).length ≤ k → P a = P b → Q a = Q b := by
  have fm : mt n le ∈ latF n le := by simp
  have fj : mt n (du le) ∈ latF n le := by simp
  intro k
  induction k with
  | zero =>
    intro a ha hab hk e
    by_cases q : le b a = true
    · rw [h.as ha hb hab q]
    · have : b ∈ fl n fun z => le z b && !le z a := fl_mem.2 ⟨hb, by rw [h.ord.refl b hb]; cases w : le b a <;> simp_all⟩
      have := List.length_pos_of_mem this
      omega
  | succ k ih =>
    intro a ha hab hk e
    by_cases q : le b a = true
    · rw [h.as ha hb hab q]
    · obtain ⟨j, hj, jb, ja, jm⟩ := least_not h ha _ b hb (Nat.le_refl _) q
      have hs := h.mlt hj ha
      have sj := h.m1 hj ha
      have sa := h.m2 hj ha
      have s1 : ls le (mt n le j a) j = true := ls_iff.2 ⟨fun w => ja (by rw [w] at sa; exact sa), sj⟩
      obtain ⟨i1, i2⟩ := irr_of h hj hs s1 fun z hz w => h.mg hj ha hz (ls_iff.1 w).2 (jm z hz w)
      have hpj : P j = P (mt n le j a) := by
        have e1 := (cg_xy cP fm hj hb).1
        have e2 := (cg_xy cP fm hj ha).1
        rw [m_le h hj hb jb, ← e, ← e2] at e1
        exact e1
      have hqj := hc j hj i1 (by rw [i2]; exact hpj)
      rw [i2] at hqj
      have ha' := jlt h ha hj
      have q1 : Q (mt n (du le) a j) = Q a := by
        have e1 := (cg_xy cQ fj ha hj).1
        have e2 := (cg_xy cQ fj ha hs).1
        rw [hqj, ← e2, j_le h ha hs sa] at e1
        exact e1
      have p1 : P (mt n (du le) a j) = P b := by
        have e1 := (cg_xy cP fj ha hj).2
        have e2 := (cg_xy cP fj hb hj).2
        rw [e, ← e2, j_le h hb hj jb] at e1
        exact e1
      rw [← q1]
      refine ih _ ha' (jg h ha hj hb hab jb) ?_ p1
      have : (fl n fun z => le z b && !le z (mt n (du le) a j)).length < (fl n fun z => le z b && !le z a).length :=
        fl_lt (fun z hz w => by
          simp only [Bool.and_eq_true, Bool.not_eq_true'] at w ⊢
          refine ⟨w.1, ?_⟩
          cases w2 : le z a with
          | false => rfl
          | true => rw [h.tr hz ha ha' w2 (j1 h ha hj)] at w; cases w.2) hj (by
            rw [jb, Bool.true_and]
            cases w : le j a with
            | false => rfl
            | true => exact absurd w ja) (by rw [j2 h ha hj]; simp)
      omega

theorem cong_det {n : Nat} {le : Nat → Nat → Bool} (h : LatP n le) {P Q : Nat → Nat} (hP : Pt n P) (hQ : Pt n Q) (cP : Cg n (latF n le) P) (cQ : Cg n (latF n le) Q)
    (hc : ∀ j, j < n → irr n le j = true → (P j = P (star n le j) ↔ Q j = Q (star n le j))) {x : Nat} (hx : x < n) : P x = Q x := by
  have fm : mt n le ∈ latF n le := by simp
  have key : ∀ {P Q : Nat → Nat}, Pt n P → Pt n Q → Cg n (latF n le) P → Cg n (latF n le) Q → (∀ j, j < n → irr n le j = true → P j = P (star n le j) → Q j = Q (star n le j)) → Lep n P Q := by
    intro P Q hP hQ cP cQ hc x hx
    have hp := hP.lt hx
    have e1 : P (mt n le (P x) x) = P x := by rw [← (cg_xy cP fm hx hx).2, mt_self h hx]
    have hm := h.mlt hp hx
    have a1 := cong_up h hP hQ cP cQ hc hx _ _ hm (h.m2 hp hx) (Nat.le_refl _) e1
    have a2 := cong_up h hP hQ cP cQ hc hp _ _ hm (h.m1 hp hx) (Nat.le_refl _) (by rw [e1, hP.id x hx])
    rw [← a1, ← a2]
  exact Lep.eq hP hQ (key hP hQ cP cQ fun j hj hi => (hc j hj hi).1) (key hQ hP cQ cP fun j hj hi => (hc j hj hi).2) hx

theorem irr_len {n : Nat} {le : Nat → Nat → Bool} (h : LatP n le) : (fl n fun j => irr n le j).length < n := by
  obtain ⟨t, ht⟩ := topEx h.du
  have hb : ∀ z, z < n → le t z = true := fun z hz => ht.gr z hz (by simp)
  have : (fl n fun j => irr n le j).length < (fl n fun _ => true).length := fl_lt (fun _ _ _ => rfl) ht.lt rfl (by
    cases w : irr n le t with
    | false => rfl
    | true =>
      unfold irr at w
      rw [decide_eq_true_eq] at w
      cases e : fl n fun x => cov n le x t with
      | nil => rw [e] at w; simp at w
      | cons a l =>
        have hm : a ∈ fl n fun x => cov n le x t := by rw [e]; simp
        obtain ⟨ha, hc⟩ := fl_mem.1 hm
        have hl := ls_iff.1 (cov_ls hc)
        exact absurd (h.as ha ht.lt hl.2 (hb a ha)) hl.1)
  have := fl_len n fun _ => true
  omega

theorem nodup_lt : ∀ (N : Nat) (L : List Nat), L.Nodup → (∀ x ∈ L, x < N) → L.length ≤ N := fun N L h1 h2 => by
  have := h1.length_le_of_subset (l₂ := List.range N) fun x hx => List.mem_range.2 (h2 x hx)
  rwa [List.length_range] at this

theorem nodup_map {α β : Type} {f : α → β} : ∀ {l : List α}, (∀ a ∈ l, ∀ b ∈ l, f a = f b → a = b) → l.Nodup → (l.map f).Nodup
  | [], _, _ => List.nodup_nil
  | a :: l, hf, h => by
    obtain ⟨h1, h2⟩ := List.nodup_cons.1 h
    rw [List.map_cons, List.nodup_cons]
    refine ⟨fun q => ?_, nodup_map (fun x hx y hy => hf x (List.mem_cons_of_mem _ hx) y (List.mem_cons_of_mem _ hy)) h2⟩
    obtain ⟨b, hb, e⟩ := List.mem_map.1 q
    exact h1 (hf b (List.mem_cons_of_mem _ hb) a (by simp) e ▸ hb)

theorem cong_few {n : Nat} {le : Nat → Nat → Bool} (h : LatP n le) (h8 : n ≤ 8) (L : List (List Int)) (hn : L.Nodup) (hc : ∀ a ∈ L, CongL n (latF n le) a) : L.length ≤ 128 := by
  have hk := irr_len h
  generalize hI : (fl n fun j => irr n le j) = I at hk
  have hex : ∀ a : List Int, ∃ b, b < 2 ^ I.length ∧ ∀ i, i < I.length → (bt1 b i ↔ decide (fnL a (I.getD i 0) = fnL a (star n le (I.getD i 0))) = true) := fun a => bits_ex _ _
  let code : List Int → Nat := fun a => Classical.choose (hex a)
  have hcode : ∀ a, code a < 2 ^ I.length ∧ ∀ i, i < I.length → (bt1 (code a) i ↔ decide (fnL a (I.getD i 0) = fnL a (star n le (I.getD i 0))) = true) := fun a => Classical.choose_spec (hex a)
  have hinj : ∀ a ∈ L, ∀ b ∈ L, code a = code b → a = b := fun a ha b hb e => by
    obtain ⟨P, hP, rfl, cP⟩ := hc a ha
    obtain ⟨Q, hQ, rfl, cQ⟩ := hc b hb
    refine ptL_congr fun x hx => cong_det h hP hQ cP cQ (fun j hj hi => ?_) hx
    have hm : j ∈ I := by rw [← hI]; exact fl_mem.2 ⟨hj, hi⟩
    obtain ⟨i, hil, ei⟩ := List.getElem_of_mem hm
    have e1 := (hcode (ptL n P)).2 i hil
    have e2 := (hcode (ptL n Q)).2 i hil
    have hg : I.getD i 0 = j := by rw [List.getD_eq_getElem?_getD, List.getElem?_eq_getElem hil, ei]; rfl
    have hst := star_lt hi
    rw [hg, fnL_ptL hj, fnL_ptL hst, decide_eq_true_eq] at e1 e2
    rw [e] at e1
    exact e1.symm.trans e2
  have := nodup_lt (2 ^ I.length) (L.map code) (nodup_map hinj hn) (fun x hx => by
    obtain ⟨a, _, rfl⟩ := List.mem_map.1 hx
    exact (hcode a).1)
  rw [List.length_map] at this
  have : 2 ^ I.length ≤ 2 ^ 7 := Nat.pow_le_pow_right (by omega) (by omega)
  omega

theorem cong_facts {n : Nat} {fs : List (Nat → Nat → Nat)} (h8 : n ≤ 8) {a : List Int} (h : CongL n fs a) : a.length = n ∧ ∀ x ∈ a, 0 ≤ x ∧ x ≤ 255 := by
  obtain ⟨P, hP, rfl, _⟩ := h
  refine ⟨ptL_len n P, fun x hx => ?_⟩
  obtain ⟨i, hi⟩ := List.mem_iff_getElem?.1 hx
  have hil : i < n := by
    have := (List.getElem?_eq_some_iff.1 hi).1
    rwa [ptL_len] at this
  unfold ptL at hi
  rw [get_mkR hil] at hi
  have := Option.some.inj hi
  have := hP.lt hil
  omega

theorem implJoin_cong {n : Nat} {fs : List (Nat → Nat → Nat)} (hn : n ≤ 1048576) {a b : List Int} (ha : CongL n fs a) (hb : CongL n fs b) : zz58 big a b = some (Jl n a b, ()) := by
  obtain ⟨P, p1, rfl, p3⟩ := ha
  obtain ⟨Q, q1, rfl, q3⟩ := hb
  rw [Jl_eq q1, implJoin_eq2 hn q1]

theorem specJoin_cong {n : Nat} {fs : List (Nat → Nat → Nat)} (hn : n ≤ 1048576) {a b : List Int} (ha : CongL n fs a) (hb : CongL n fs b) : zz31 big a b = some (Jl n a b, ()) := by
  obtain ⟨P, p1, rfl, p3⟩ := ha
  obtain ⟨Q, q1, rfl, q3⟩ := hb
  rw [Jl_eq q1, specJoin_eq2 hn q1]

theorem implAll_eq {n : Nat} {le : Nat → Nat → Bool} (h : LatP n le) (h8 : n ≤ 8) {RL : List (List Int)} (hn : RL.Nodup) (hm : ∀ a, a ∈ RL ↔ Rch n (latF n le) a) :
    zz59 big (algL n (latF n le)) = some ((sortBy cmpC RL, true, ()), ()) := by
  have h10 := h.le10
  have h0 := h.lat.ne
  have ho := latF_op h
  have hfl : (latF n le).length ≤ 10 := by simp
  have hcg : ∀ {a}, Rch n (latF n le) a → CongL n (latF n le) a := fun r => r.cong h10 h0 hfl ho
  have h128 : ∀ L : List (List Int), L.Nodup → (∀ a ∈ L, Rch n (latF n le) a) → L.length ≤ 128 := fun L h1 h2 => cong_few h h8 L h1 fun a ha => hcg (h2 a ha)
  have hR := h128 RL hn fun a ha => (hm a).1 ha
  have fin : ∀ L : List (List Int), L.Nodup → (∀ a, a ∈ L ↔ Rch n (latF n le) a) → zz59_a12 L = some ((sortBy cmpC RL, true, ()), ()) := by
    intro L h1 h2
    have hp : L.Perm RL := nodup_perm h1 hn fun a => (h2 a).trans (hm a).symm
    have hl := hp.length_eq
    have e : sortBy cmpC L = sortBy cmpC RL := sortBy_unique cmpC_ok ((sortBy_perm cmpC_ok L).trans hp) (sortBy_sorted cmpC_ok L)
    unfold zz59_a12 impl_sortRows_k_compareCongruences
    rw [sortRows_eq _ _ (by omega), Option.bind_some, e]
  have bfs : ∀ (G : List (List Int)), (∀ g, g ∈ G ↔ GP n (latF n le) g) → G.length ≤ 1000 → ∀ (seen : List (List UInt8 × Bool)), (∀ k, Option.getD (mget .str .bool seen k) false = true ↔ ∃ a ∈ [ptL n fun x => x], keyL a = k) →
      zz59_F12 big G [ptL n fun x => x] seen (0 : Int) = some ((sortBy cmpC RL, true, ()), ()) := by
    intro G hG hGl seen hseen
    have done : ∀ (i : Nat) (L : List (List Int)) (s : List (List UInt8 × Bool)), L.length ≤ i → (L.Nodup ∧ (∀ a ∈ L, Rch n (latF n le) a) ∧ (ptL n fun x => x) ∈ L ∧ ∀ k, (Option.getD (mget .str .bool s k) false = true ↔ ∃ a ∈ L, keyL a = k)) →
        (∀ (i' : Nat) (a : List Int), i' < i → L[i']? = some a → ∀ g, GP n (latF n le) g → Jl n a g ∈ L) → zz59_a12 L = some ((sortBy cmpC RL, true, ()), ()) := by
      intro i L s hil hst hcl
      refine fin L hst.1 fun a => ⟨hst.2.1 a, fun r => Rch.of_closed hst.2.2.1 (fun a ha g hg => ?_) r⟩
      obtain ⟨i', hi'⟩ := List.mem_iff_getElem?.1 ha
      have := (List.getElem?_eq_some_iff.1 hi').1
      exact hcl i' a (by omega) hi' g hg
    refine zz59_h12 RL.length (fun i L s => (L.Nodup ∧ (∀ a ∈ L, Rch n (latF n le) a) ∧ (ptL n fun x => x) ∈ L ∧ ∀ k, (Option.getD (mget .str .bool s k) false = true ↔ ∃ a ∈ L, keyL a = k)) ∧
        ∀ (i' : Nat) (a : List Int), i' < i → L[i']? = some a → ∀ g, GP n (latF n le) g → Jl n a g ∈ L) (by omega) ?_ ?_ 0 (by omega) _ _ ⟨⟨by simp, fun a ha => ?_, by simp, hseen⟩, fun i' a q => by omega⟩
    · rintro rc i L s hi ⟨hst, hcl⟩ ih
      unfold zz59_b12
      by_cases c : i < L.length
      · rw [cdt (by omega)]
        have hcurR := hst.2.1 _ (List.getElem_mem c)
        generalize hcur0 : L[i] = cur at hcurR
        have hcurL : L[i]? = some cur := by rw [List.getElem?_eq_getElem c, hcur0]
        refine zz59_h15 G.length (fun j L s => (L.Nodup ∧ (∀ a ∈ L, Rch n (latF n le) a) ∧ (ptL n fun x => x) ∈ L ∧ ∀ k, (Option.getD (mget .str .bool s k) false = true ↔ ∃ a ∈ L, keyL a = k)) ∧ L[i]? = some cur ∧
          (∀ (i' : Nat) (a : List Int), i' < i → L[i']? = some a → ∀ g, GP n (latF n le) g → Jl n a g ∈ L) ∧ ∀ (j' : Nat) (g : List Int), j' < j → G[j']? = some g → Jl n cur g ∈ L) (by omega) ?_ ?_ 0 (by omega) _ _ ⟨hst, hcurL, hcl, fun j' g q => by omega⟩
        · rintro rc2 j L s hj ⟨hst, hcur, hcl, hdone⟩ ih2
          have hil : i < L.length := (List.getElem?_eq_some_iff.1 hcur).1
          have hLl := h128 L hst.1 hst.2.1
          have hgR := (hG _).1 (List.getElem_mem hj)
          have hcu : atI L (i : Int) = some cur := by rw [atI_nat, hcur]
          have hgj : G[j]? = some G[j] := List.getElem?_eq_getElem hj
          generalize G[j] = g at hgR hgj
          have hxR : Rch n (latF n le) (Jl n cur g) := .step hcurR hgR
          have hxf := cong_facts h8 (hcg hxR)
          have hgg : atI G (j : Int) = some g := by rw [atI_nat, hgj]
          have nxt : ∀ L' : List (List Int), Jl n cur g ∈ L' → (∀ a ∈ L, a ∈ L') → ∀ (j' : Nat) (g : List Int), j' < j + 1 → G[j']? = some g → Jl n cur g ∈ L' := by
            intro L' h1 h2 j' g' hj' e
            by_cases q : j' = j
            · subst q; rw [hgj] at e; cases e; exact h1
            · exact h2 _ (hdone j' g' (by omega) e)
          unfold zz59_b15
          rw [cdt (by omega)]
          simp only [hgg, hcu, Int.toNat_natCast, hgj, hcur, Option.bind_some, implJoin_cong (show n ≤ 1048576 by omega) (hcg hcurR) (hgR.cong h10 h0 hfl ho), keyOf_eq (show (Jl n cur g).length ≤ 1048576 by omega) (fun x hx => by have := hxf.2 x hx; omega)]
          by_cases hin : Jl n cur g ∈ L
          · rw [(hst.2.2.2 _).2 ⟨_, hin, rfl⟩, Bool.not_true, cond_false, cdf (by omega), wr1 (by omega)]
            exact ih2 _ _ ⟨hst, hcur, hcl, nxt L hin fun _ q => q⟩
          · have hno : Option.getD (mget .str .bool s (keyL (Jl n cur g))) false = false := by
              cases e : Option.getD (mget .str .bool s (keyL (Jl n cur g))) false with
              | false => rfl
              | true =>
                obtain ⟨a, ha, ek⟩ := (hst.2.2.2 _).1 e
                have := keyL_inj (cong_facts h8 (hcg (hst.2.1 a ha))).2 hxf.2 ek
                exact absurd (this ▸ ha) hin
            rw [hno, Bool.not_false, cond_true, app1 (by omega), Option.bind_some, cdf (by rw [List.length_append, List.length_singleton]; omega), wr1 (by omega)]
            refine ih2 _ _ ⟨⟨?_, ?_, ?_, ?_⟩, ?_, ?_, nxt _ (by simp) fun a q => List.mem_append_left _ q⟩
            · rw [List.nodup_append]
              exact ⟨hst.1, by simp, fun a ha b hb e => hin (by rw [List.mem_singleton] at hb; rw [← hb, ← e]; exact ha)⟩
            · intro a ha
              rcases List.mem_append.1 ha with q | q
              · exact hst.2.1 a q
              · rw [List.mem_singleton] at q; rw [q]; exact hxR
            · exact List.mem_append_left _ hst.2.2.1
            · intro k
              rw [mgetS_mput]
              by_cases e : k = keyL (Jl n cur g)
              · rw [if_pos e]
                exact ⟨fun _ => ⟨_, List.mem_append_right _ (by simp), e.symm⟩, fun _ => rfl⟩
              · rw [if_neg e, hst.2.2.2 k]
                constructor
                · rintro ⟨a, ha, q⟩; exact ⟨a, List.mem_append_left _ ha, q⟩
                · rintro ⟨a, ha, q⟩
                  rcases List.mem_append.1 ha with w | w
                  · exact ⟨a, w, q⟩
                  · rw [List.mem_singleton] at w; rw [w] at q; exact absurd q.symm e
            · rw [List.getElem?_append_left hil, hcur]
            · intro i' a hi' e g' hg'
              rw [List.getElem?_append_left (by omega)] at e
              exact List.mem_append_left _ (hcl i' a hi' e g' hg')
        · rintro rc2 L s ⟨hst, hcur, hcl, hdone⟩
          unfold zz59_b15
          rw [cdf (by omega), zz59_a15, wr1 (by omega)]
          refine ih _ _ ⟨hst, fun i' a hi' e g hg => ?_⟩
          by_cases q : i' = i
          · subst q
            rw [hcur] at e; cases e
            obtain ⟨j', hj'⟩ := List.mem_iff_getElem?.1 ((hG g).2 hg)
            exact hdone j' g (List.getElem?_eq_some_iff.1 hj').1 hj'
          · exact hcl i' a (by omega) e g hg
      · rw [cdf (by omega)]
        exact done i L s (by omega) hst hcl
    · rintro rc L s ⟨hst, hcl⟩
      have hle := hst.1.length_le_of_subset (l₂ := RL) fun a ha => (hm a).2 (hst.2.1 a ha)
      unfold zz59_b12
      rw [cdf (by omega)]
      exact done _ L s hle hst hcl
    · rw [List.mem_singleton] at ha; rw [ha]; exact .id
  unfold zz59 zz59_s
  refine zz59_h3 n (fun i l => (∀ g, g ∈ l ↔ ∃ x y, x < y ∧ y < n ∧ x < i ∧ g = prinL n (latF n le) x y) ∧ l.length ≤ i * 10) (by omega) ?_ ?_ 0 (by omega) _ ⟨fun g => ⟨fun q => by simp at q, fun ⟨x, y, _, _, q, _⟩ => by omega⟩, by simp⟩
  · rintro rc i l hi ⟨hv, hl⟩ ih
    unfold zz59_b3
    rw [show (algL n (latF n le)).1 = (n : Int) from rfl, cdt (by omega), wr1 (by omega)]
    refine zz59_h6 n (fun j l => i < j ∧ (∀ g, g ∈ l ↔ ∃ x y, x < y ∧ y < n ∧ (x < i ∨ x = i ∧ y < j) ∧ g = prinL n (latF n le) x y) ∧ l.length ≤ i * 10 + j) (by omega) ?_ ?_ (i + 1) (by omega) l ⟨by omega, fun g => (hv g).trans ⟨?_, ?_⟩, by omega⟩
    · rintro rc2 j l hj ⟨hij, hv, hl⟩ ih2
      unfold zz59_b6
      rw [show (algL n (latF n le)).1 = (n : Int) from rfl, cdt (by omega), implPrin_eq h10 h0 hfl ho hi hj, Option.bind_some, app1 (by omega), Option.bind_some, wr1 (by omega)]
      refine ih2 _ ⟨by omega, fun g => ?_, by rw [List.length_append, List.length_singleton]; omega⟩
      rw [List.mem_append, hv g, List.mem_singleton]
      constructor
      · rintro (⟨x, y, a, b, c, d⟩ | rfl)
        · exact ⟨x, y, a, b, by omega, d⟩
        · exact ⟨i, j, hij, hj, by omega, rfl⟩
      · rintro ⟨x, y, a, b, c, rfl⟩
        by_cases q : x = i ∧ y = j
        · obtain ⟨rfl, rfl⟩ := q; exact .inr rfl
        · exact .inl ⟨x, y, a, b, by omega, rfl⟩
    · rintro rc2 l ⟨hij, hv, hl⟩
      unfold zz59_b6
      rw [show (algL n (latF n le)).1 = (n : Int) from rfl, cdf (by omega), zz59_a6, wr1 (by omega)]
      refine ih _ ⟨fun g => (hv g).trans ⟨?_, ?_⟩, by omega⟩
      · rintro ⟨x, y, a, b, c, d⟩; exact ⟨x, y, a, b, by omega, d⟩
      · rintro ⟨x, y, a, b, c, d⟩; exact ⟨x, y, a, b, by omega, d⟩
    · rintro ⟨x, y, a, b, c, d⟩; exact ⟨x, y, a, b, by omega, d⟩
    · rintro ⟨x, y, a, b, c, d⟩; exact ⟨x, y, a, b, by omega, d⟩
  · rintro rc l ⟨hv, hl⟩
    have hidf := cong_facts h8 (hcg (Rch.id (n := n) (fs := latF n le)))
    unfold zz59_b3
    rw [show (algL n (latF n le)).1 = (n : Int) from rfl, cdf (by omega), zz59_a3, show (algL n (latF n le)).1 = (n : Int) from rfl, identityOf_eq (by omega), Option.bind_some]
    show (atI [ptL n fun x => x] (0 : Int)).bind _ = _
    rw [show atI [ptL n fun x => x] (0 : Int) = some (ptL n fun x => x) from rfl, Option.bind_some]
    show (zz56 big (ptL n fun x => x)).bind _ = _
    rw [keyOf_eq (show (ptL n fun x => x).length ≤ 1048576 by omega) (fun x hx => by have := hidf.2 x hx; omega), Option.bind_some]
    refine bfs l (fun g => (hv g).trans ⟨?_, ?_⟩) (by omega) _ fun k => ?_
    · rintro ⟨x, y, a, b, c, d⟩; exact ⟨x, y, a, b, d⟩
    · rintro ⟨x, y, a, b, d⟩; exact ⟨x, y, a, b, by omega, d⟩
    · show Option.getD (mget .str .bool (mput .str .bool [] (keyL (ptL n fun x => x)) true) k) false = true ↔ _
      rw [mgetS_mput]
      by_cases e : k = keyL (ptL n fun x => x)
      · rw [if_pos e]
        exact ⟨fun _ => ⟨_, by simp, e.symm⟩, fun _ => rfl⟩
      · rw [if_neg e]
        constructor
        · intro q; simp [mget] at q
        · rintro ⟨a, ha, q⟩; rw [List.mem_singleton] at ha; rw [ha] at q; exact absurd q.symm e

open Classical in

theorem put_step {ls : List (List Int)} {x : List Int} (hs : SortedL cmpC ls) (hn : ls.Nodup) : SortedL cmpC (if x ∈ ls then ls else insBy cmpC x ls) ∧ (if x ∈ ls then ls else insBy cmpC x ls).Nodup ∧ ∀ g, g ∈ (if x ∈ ls then ls else insBy cmpC x ls) ↔ g ∈ ls ∨ g = x := by
  by_cases q : x ∈ ls
  · rw [if_pos q]
    exact ⟨hs, hn, fun g => ⟨.inl, fun w => w.elim id fun e => e ▸ q⟩⟩
  · rw [if_neg q]
    have hp := insBy_perm (c := cmpC) x ls
    refine ⟨insBy_sorted cmpC_ok x ls hs, hp.nodup_iff.2 (List.nodup_cons.2 ⟨q, hn⟩), fun g => ?_⟩
    rw [hp.mem_iff, List.mem_cons]
    exact ⟨fun w => w.symm, fun w => w.symm⟩

theorem specMost_eq {n : Nat} {le : Nat → Nat → Bool} (h : LatP n le) (h8 : n ≤ 8) {RL : List (List Int)} (hn : RL.Nodup) (hm : ∀ a, a ∈ RL ↔ Rch n (latF n le) a) :
    zz32 big (algL n (latF n le)) 5000 = some (sortBy cmpC RL, ()) := by
  classical
  have h10 := h.le10
  have h0 := h.lat.ne
  have ho := latF_op h
  have hfl : (latF n le).length ≤ 10 := by simp
  have hcg : ∀ {a}, Rch n (latF n le) a → CongL n (latF n le) a := fun r => r.cong h10 h0 hfl ho
  have h128 : ∀ L : List (List Int), L.Nodup → (∀ a ∈ L, Rch n (latF n le) a) → L.length ≤ 128 := fun L h1 h2 => cong_few h h8 L h1 fun a ha => hcg (h2 a ha)
  have hR := h128 RL hn fun a ha => (hm a).1 ha
  have bfs : ∀ (G : List (List Int)), (∀ g, g ∈ G ↔ GP n (latF n le) g) → G.length ≤ 1000 →
      zz32_F12 big 5000 G [ptL n fun x => x] [ptL n fun x => x] (0 : Int) = some (sortBy cmpC RL, ()) := by
    intro G hG hGl
    have done : ∀ (i : Nat) (out L : List (List Int)), L.length ≤ i → (SortedL cmpC out ∧ out.Nodup ∧ L.Nodup ∧ (∀ a, a ∈ L ↔ a ∈ out) ∧ (∀ a ∈ L, Rch n (latF n le) a) ∧ (ptL n fun x => x) ∈ L) →
        (∀ (i' : Nat) (a : List Int), i' < i → L[i']? = some a → ∀ g, GP n (latF n le) g → Jl n a g ∈ L) → zz32_a12 out = some (sortBy cmpC RL, ()) := by
      intro i out L hil ⟨o1, o2, o3, o4, o5, o6⟩ hcl
      have hmem : ∀ a, a ∈ L ↔ Rch n (latF n le) a := fun a => ⟨o5 a, fun r => Rch.of_closed o6 (fun a ha g hg => by
        obtain ⟨i', hi'⟩ := List.mem_iff_getElem?.1 ha
        have := (List.getElem?_eq_some_iff.1 hi').1
        exact hcl i' a (by omega) hi' g hg) r⟩
      have hp : out.Perm RL := nodup_perm o2 hn fun a => ((o4 a).symm.trans (hmem a)).trans (hm a).symm
      rw [zz32_a12, sortBy_unique cmpC_ok hp o1]
    refine zz32_h12 RL.length (fun i out L => (SortedL cmpC out ∧ out.Nodup ∧ L.Nodup ∧ (∀ a, a ∈ L ↔ a ∈ out) ∧ (∀ a ∈ L, Rch n (latF n le) a) ∧ (ptL n fun x => x) ∈ L) ∧
        ∀ (i' : Nat) (a : List Int), i' < i → L[i']? = some a → ∀ g, GP n (latF n le) g → Jl n a g ∈ L) (by omega) ?_ ?_ 0 (by omega) _ _ ⟨⟨List.pairwise_singleton _ _, by simp, by simp, fun a => Iff.rfl, fun a ha => ?_, by simp⟩, fun i' a q => by omega⟩
    · rintro rc i out L hi ⟨hst, hcl⟩ ih
      have hol := h128 out hst.2.1 fun a ha => hst.2.2.2.2.1 a ((hst.2.2.2.1 a).2 ha)
      unfold zz32_b12
      by_cases c : i < L.length
      · rw [cdt (by omega), cdt (by omega)]
        have hcurR := hst.2.2.2.2.1 _ (List.getElem_mem c)
        generalize hcur0 : L[i] = cur at hcurR
        have hcurL : L[i]? = some cur := by rw [List.getElem?_eq_getElem c, hcur0]
        refine zz32_h15 G.length (fun j out L => (SortedL cmpC out ∧ out.Nodup ∧ L.Nodup ∧ (∀ a, a ∈ L ↔ a ∈ out) ∧ (∀ a ∈ L, Rch n (latF n le) a) ∧ (ptL n fun x => x) ∈ L) ∧ L[i]? = some cur ∧
          (∀ (i' : Nat) (a : List Int), i' < i → L[i']? = some a → ∀ g, GP n (latF n le) g → Jl n a g ∈ L) ∧ ∀ (j' : Nat) (g : List Int), j' < j → G[j']? = some g → Jl n cur g ∈ L) (by omega) ?_ ?_ 0 (by omega) _ _ ⟨hst, hcurL, hcl, fun j' g q => by omega⟩
        · rintro rc2 j out L hj ⟨hst, hcur, hcl, hdone⟩ ih2
          obtain ⟨o1, o2, o3, o4, o5, o6⟩ := hst
          have hil : i < L.length := (List.getElem?_eq_some_iff.1 hcur).1
          have hLl := h128 L o3 o5
          have hol := h128 out o2 fun a ha => o5 a ((o4 a).2 ha)
          have hgR := (hG _).1 (List.getElem_mem hj)
          have hcu : atI L (i : Int) = some cur := by rw [atI_nat, hcur]
          have hgj : G[j]? = some G[j] := List.getElem?_eq_getElem hj
          generalize G[j] = g at hgR hgj
          have hxR : Rch n (latF n le) (Jl n cur g) := .step hcurR hgR
          have hxf := cong_facts h8 (hcg hxR)
          have hgg : atI G (j : Int) = some g := by rw [atI_nat, hgj]
          have nxt : ∀ L' : List (List Int), Jl n cur g ∈ L' → (∀ a ∈ L, a ∈ L') → ∀ (j' : Nat) (g : List Int), j' < j + 1 → G[j']? = some g → Jl n cur g ∈ L' := by
            intro L' h1 h2 j' g' hj' e
            by_cases q : j' = j
            · subst q; rw [hgj] at e; cases e; exact h1
            · exact h2 _ (hdone j' g' (by omega) e)
          have hput := put6_eq (ls := out) (l := Jl n cur g) (by omega) (by omega) (fun x hx => by rw [(cong_facts h8 (hcg (o5 x ((o4 x).2 hx)))).1, hxf.1]) o1 o2
          unfold zz32_b15
          rw [cdt (by omega), cdt (by omega)]
          simp only [hgg, hcu, Int.toNat_natCast, hcur, Option.bind_some, specJoin_cong (show n ≤ 1048576 by omega) (hcg hcurR) (hgR.cong h10 h0 hfl ho)]
          rw [hput, Option.bind_some]
          by_cases hin : Jl n cur g ∈ L
          · have hin2 := (o4 _).1 hin
            simp only [if_pos hin2]
            rw [cdf (by omega), wr1 (by omega)]
            exact ih2 _ _ ⟨⟨o1, o2, o3, o4, o5, o6⟩, hcur, hcl, nxt L hin fun _ q => q⟩
          · have hin2 : Jl n cur g ∉ out := fun q => hin ((o4 _).2 q)
            have hp := insBy_perm (c := cmpC) (Jl n cur g) out
            have hpl := hp.length_eq
            rw [List.length_cons] at hpl
            obtain ⟨s1, s2, s3⟩ := put_step (x := Jl n cur g) o1 o2
            simp only [if_neg hin2] at s1 s2 s3 ⊢
            rw [cdt (by omega), app1 (by omega), Option.bind_some, wr1 (by omega)]
            refine ih2 _ _ ⟨⟨s1, s2, ?_, ?_, ?_, ?_⟩, ?_, ?_, nxt _ (by simp) fun a q => List.mem_append_left _ q⟩
            · rw [List.nodup_append]
              exact ⟨o3, by simp, fun a ha b hb e => hin (by rw [List.mem_singleton] at hb; rw [← hb, ← e]; exact ha)⟩
            · intro a
              rw [List.mem_append, List.mem_singleton, s3 a, o4 a]
            · intro a ha
              rcases List.mem_append.1 ha with q | q
              · exact o5 a q
              · rw [List.mem_singleton] at q; rw [q]; exact hxR
            · exact List.mem_append_left _ o6
            · rw [List.getElem?_append_left hil, hcur]
            · intro i' a hi' e g' hg'
              rw [List.getElem?_append_left (by omega)] at e
              exact List.mem_append_left _ (hcl i' a hi' e g' hg')
        · rintro rc2 out L ⟨hst, hcur, hcl, hdone⟩
          unfold zz32_b15
          rw [cdf (by omega), zz32_a15, wr1 (by omega)]
          refine ih _ _ ⟨hst, fun i' a hi' e g hg => ?_⟩
          by_cases q : i' = i
          · subst q
            rw [hcur] at e; cases e
            obtain ⟨j', hj'⟩ := List.mem_iff_getElem?.1 ((hG g).2 hg)
            exact hdone j' g (List.getElem?_eq_some_iff.1 hj').1 hj'
          · exact hcl i' a (by omega) e g hg
      · rw [cdf (by omega)]
        exact done i out L (by omega) hst hcl
    · rintro rc out L ⟨hst, hcl⟩
      have hle := hst.2.2.1.length_le_of_subset (l₂ := RL) fun a ha => (hm a).2 (hst.2.2.2.2.1 a ha)
      unfold zz32_b12
      rw [cdf (by omega)]
      exact done _ out L hle hst hcl
    · rw [List.mem_singleton] at ha; rw [ha]; exact .id
  have gp : ∀ {x y : Nat}, y < x → x < n → GP n (latF n le) (prinL n (latF n le) x y) := fun {x y} a b => ⟨y, x, a, b, prin_comm ..⟩
  have plen : ∀ (l : List (List Int)), l.Nodup → (∀ g ∈ l, GP n (latF n le) g) → l.length ≤ 128 := fun l h1 h2 => cong_few h h8 l h1 fun g hg => (h2 g hg).cong h10 h0 hfl ho
  unfold zz32 zz32_s
  refine zz32_h3 n (fun i l => SortedL cmpC l ∧ l.Nodup ∧ ∀ g, g ∈ l ↔ ∃ x y, y < x ∧ x < i ∧ g = prinL n (latF n le) x y) (by omega) ?_ ?_ 0 (by omega) _ ⟨List.Pairwise.nil, List.nodup_nil, fun g => ⟨fun q => by simp at q, fun ⟨x, y, _, q, _⟩ => by omega⟩⟩
  · rintro rc i l hi ⟨v1, v2, v3⟩ ih
    unfold zz32_b3
    rw [show (algL n (latF n le)).1 = (n : Int) from rfl, cdt (by omega)]
    refine zz32_h6 i (fun j l => SortedL cmpC l ∧ l.Nodup ∧ ∀ g, g ∈ l ↔ ∃ x y, y < x ∧ (x < i ∨ x = i ∧ y < j) ∧ g = prinL n (latF n le) x y) (by omega) ?_ ?_ 0 (by omega) l ⟨v1, v2, fun g => (v3 g).trans ⟨?_, ?_⟩⟩
    · rintro rc2 j l hj ⟨v1, v2, v3⟩ ih2
      have hgl : ∀ g ∈ l, GP n (latF n le) g := fun g hg => by
        obtain ⟨x, y, a, b, rfl⟩ := (v3 g).1 hg
        exact gp a (by omega)
      have hll := plen l v2 hgl
      have hnf := (cong_facts h8 ((gp hj hi).cong h10 h0 hfl ho)).1
      obtain ⟨s1, s2, s3⟩ := put_step (x := prinL n (latF n le) i j) v1 v2
      unfold zz32_b6
      rw [cdt (by omega), specPrin_eq h10 h0 hfl ho hi (by omega), Option.bind_some]
      show (zz30 big l (prinL n (latF n le) i j)).bind _ = _
      rw [put6_eq (by omega) (by omega) (fun x hx => by rw [(cong_facts h8 ((hgl x hx).cong h10 h0 hfl ho)).1, hnf]) v1 v2, Option.bind_some, wr1 (by omega)]
      refine ih2 _ ⟨s1, s2, fun g => ?_⟩
      rw [s3 g, v3 g]
      constructor
      · rintro (⟨x, y, a, b, c⟩ | rfl)
        · exact ⟨x, y, a, by omega, c⟩
        · exact ⟨i, j, hj, by omega, rfl⟩
      · rintro ⟨x, y, a, b, rfl⟩
        by_cases q : x = i ∧ y = j
        · obtain ⟨rfl, rfl⟩ := q; exact .inr rfl
        · exact .inl ⟨x, y, a, by omega, rfl⟩
    · rintro rc2 l ⟨v1, v2, v3⟩
      unfold zz32_b6
      rw [cdf (by omega), zz32_a6, wr1 (by omega)]
      refine ih _ ⟨v1, v2, fun g => (v3 g).trans ⟨?_, ?_⟩⟩
      · rintro ⟨x, y, a, b, c⟩; exact ⟨x, y, a, by omega, c⟩
      · rintro ⟨x, y, a, b, c⟩; exact ⟨x, y, a, by omega, c⟩
    · rintro ⟨x, y, a, b, c⟩; exact ⟨x, y, a, by omega, c⟩
    · rintro ⟨x, y, a, b, c⟩; exact ⟨x, y, a, by omega, c⟩
  · rintro rc l ⟨v1, v2, v3⟩
    have hgl : ∀ g, g ∈ l ↔ GP n (latF n le) g := fun g => (v3 g).trans ⟨fun ⟨x, y, a, b, c⟩ => c ▸ gp a b, fun ⟨x, y, a, b, c⟩ => ⟨y, x, a, b, by rw [c, prin_comm]⟩⟩
    have hll := plen l v2 fun g hg => (hgl g).1 hg
    unfold zz32_b3
    rw [show (algL n (latF n le)).1 = (n : Int) from rfl, cdf (by omega), zz32_a3, show (algL n (latF n le)).1 = (n : Int) from rfl, specIdentity_eq (by omega), Option.bind_some, Option.bind_some]
    exact bfs l hgl (by omega)

theorem flt_mem {n : Nat} {f : Nat → Nat → Int} {k : Nat} (hn : 0 < n) {x : Int} (hx : x ∈ flt n f k) : ∃ i, i < k * n ∧ x = f (i / n) (i % n) := by
  obtain ⟨i, hi⟩ := List.mem_iff_getElem?.1 hx
  have hil := (List.getElem?_eq_some_iff.1 hi).1
  rw [flt_len] at hil
  rw [flt_get hn hil] at hi
  exact ⟨i, hil, (Option.some.inj hi).symm⟩

theorem latOp {n : Nat} {le : Nat → Nat → Bool} (h : LatP n le) : opB n ((2 : Int), flt n (meetF n le) n, ()) = true := by
  have h0 := h.lat.ne
  unfold opB
  rw [Bool.and_eq_true]
  refine ⟨decide_eq_true ⟨by omega, by omega, ?_⟩, List.all_eq_true.2 fun x hx => ?_⟩
  · rw [flt_len]
    show n * n = n ^ 2
    rw [Nat.pow_two]
  · obtain ⟨i, hi, rfl⟩ := flt_mem h0 hx
    obtain ⟨i1, i2⟩ := ix_lt hi
    have := h.mlt i1 i2
    unfold inB meetF
    exact decide_eq_true (by omega)

theorem isAlg_lat {n : Nat} {le : Nat → Nat → Bool} (h : LatP n le) (h8 : n ≤ 8) : zz51 big (latAlg n le) = some (true, ()) := by
  have h0 := h.lat.ne
  have hs : SmallA (latAlg n le) := by
    refine ⟨by show 2 ≤ 1048576; omega, fun o ho => ?_⟩
    have hnn : n * n ≤ 8 * 8 := Nat.mul_le_mul h8 h8
    rcases List.mem_cons.1 ho with rfl | ho
    · show (flt n (meetF n le) n).length ≤ _
      rw [flt_len]; omega
    · rw [List.mem_singleton] at ho
      subst ho
      show (flt n (meetF n (du le)) n).length ≤ _
      rw [flt_len]; omega
  rw [isAlgB_eq _ hs]
  have e : algB (latAlg n le) = true := by
    unfold algB latAlg
    rw [Bool.and_eq_true]
    refine ⟨decide_eq_true ⟨by show (1 : Int) ≤ (n : Int); omega, by show (n : Int) ≤ 8; omega, by show 2 ≤ 4; omega⟩, ?_⟩
    rw [List.all_cons, List.all_cons, List.all_nil, Bool.and_true, Bool.and_eq_true]
    exact ⟨latOp h, latOp h.du⟩
  rw [e]

theorem allC_eq {n : Nat} {le : Nat → Nat → Bool} (h : LatP n le) (h8 : n ≤ 8) : ∃ L : List (List Int), L.length ≤ 128 ∧ (∀ x ∈ L, x.length ≤ 8) ∧ zz60 (latAlg n le) = some ((L, true, ()), ()) ∧ zz33 (latAlg n le) = some (L, ()) := by
  have h10 := h.le10
  have h0 := h.lat.ne
  have ho := latF_op h
  have hfl : (latF n le).length ≤ 10 := by simp
  have hcg : ∀ {a}, Rch n (latF n le) a → CongL n (latF n le) a := fun r => r.cong h10 h0 hfl ho
  obtain ⟨RL, hn, hm⟩ := list_of (Rch n (latF n le)) 128 fun L h1 h2 => cong_few h h8 L h1 fun a ha => hcg (h2 a ha)
  have hR := cong_few h h8 RL hn fun a ha => hcg ((hm a).1 ha)
  refine ⟨sortBy cmpC RL, by rw [sortBy_len cmpC_ok]; exact hR, fun x hx => ?_, ?_, ?_⟩
  · rw [(cong_facts h8 (hcg ((hm x).1 ((sortBy_mem cmpC_ok).1 hx)))).1]; exact h8
  · unfold zz60 zz60_s
    rw [isAlg_lat h h8, Option.bind_some, Bool.not_true, cond_false, show latAlg n le = algL n (latF n le) from rfl, implAll_eq h h8 hn hm, Option.bind_some]
  · unfold zz33 zz33_s
    rw [show latAlg n le = algL n (latF n le) from rfl, specMost_eq h h8 hn hm, Option.bind_some]

theorem latCongs_eq (p : PT) (hx : ∀ r ∈ p.1, r.length ≤ 4294967296) : ∃ r : List (List Int) × Bool × Unit, zz62 p = some (r, ()) ∧ zz34 p = some (r, ()) ∧ r.1.length ≤ 128 ∧ ∀ x ∈ r.1, x.length ≤ 8 := by
  unfold zz62 zz62_s zz34 zz34_s
  rcases takes_cases hx with ⟨n, le, rfl, h, h8, h1, h2⟩ | ⟨h1, l, h2⟩
  · obtain ⟨L, l1, l2, l3, l4⟩ := allC_eq h h8
    refine ⟨(L, true, ()), ?_, ?_, l1, l2⟩
    · rw [h2, Option.bind_some, Bool.not_true, cond_false, algebra_eq h, Option.bind_some]
      unfold zz61 zz61_s
      rw [l3]; rfl
    · rw [h1, Option.bind_some, Bool.not_true, cond_false, specAlgebra_eq h, Option.bind_some, l4]; rfl
  · rw [h1, h2]
    exact ⟨_, rfl, rfl, by simp, by simp⟩

theorem isSimple_eq (p : PT) (hx : ∀ r ∈ p.1, r.length ≤ 4294967296) : ∃ r : Bool × Bool × Unit, zz73 p = some (r, ()) ∧ zz71 p = some (r, ()) := by
  unfold zz73 zz73_s zz71 zz71_s
  rcases takes_cases hx with ⟨n, le, rfl, h, h8, h1, h2⟩ | ⟨h1, l, h2⟩
  · obtain ⟨L, l1, l2, l3, l4⟩ := allC_eq h h8
    refine ⟨(decide ((L.length : Int) = 2), true, ()), ?_, ?_⟩
    · rw [h2, Option.bind_some, Bool.not_true, cond_false, algebra_eq h, Option.bind_some]
      unfold zz72 zz72_s
      rw [l3]; rfl
    · rw [h1, Option.bind_some, Bool.not_true, cond_false, specAlgebra_eq h, Option.bind_some, l4]; rfl
  · rw [h1, h2]
    exact ⟨_, rfl, rfl⟩

theorem true_LatticeCongruences (p : PT) (hw : Wf (.pair (.pair (.sl (.sl I)) .unit) .unit) (p, ())) : laws_FnExactLatticeCongruences p = some (true, ()) := by
  obtain ⟨v, hv, hv1, hv2⟩ := szPoset_eq p 1048576 hw.1 (by omega) (by omega)
  unfold laws_FnExactLatticeCongruences laws_FnExactLatticeCongruences_s
  rw [hv, Option.bind_some]
  by_cases h : v < 0
  · rw [cdt h]
  · have hs := hv2 (by omega)
    obtain ⟨r, h2, h1, h3, h4⟩ := latCongs_eq p hs.rows
    obtain ⟨m, j, hm, hj, hj2⟩ := markPoset_ok hs 1 (by omega) (by omega)
    have hsum : (r.1.map List.length).sum ≤ 10000000000 := Nat.le_trans (sum_le h4) (by omega)
    have e1 : r.1.length ≤ 1099511627775 := by omega
    have e2 : ∀ x ∈ r.1, x.length ≤ 4294967296 := fun x hx => by have := h4 x hx; omega
    have e3 : (1 : Int) + ((r.1.map List.length).sum : Nat) ≤ 1099511627775 := by omega
    simp only [cdf h, toPoset_eq hs, Option.bind_some, h1, h2, eqPoset_eq hs, eqIntSS_eq r.1 r.1 e1 e2,
        hm, markIntSS_eq r.1 1 e1 (show (0 : Int) ≤ 1 by omega) e3, heldIntSS_eq 1 (r.1.map List.length) (show (r.1.map List.length).length ≤ 1099511627775 by rw [List.length_map]; omega) (show (0 : Int) ≤ 1 by omega) e3]
    simp
    repeat rw [cdf (by omega)]

theorem true_IsSimpleLattice (p : PT) (hw : Wf (.pair (.pair (.sl (.sl I)) .unit) .unit) (p, ())) : laws_FnExactIsSimpleLattice p = some (true, ()) := by
  obtain ⟨v, hv, hv1, hv2⟩ := szPoset_eq p 1048576 hw.1 (by omega) (by omega)
  unfold laws_FnExactIsSimpleLattice laws_FnExactIsSimpleLattice_s
  rw [hv, Option.bind_some]
  by_cases h : v < 0
  · rw [cdt h]
  · have hs := hv2 (by omega)
    obtain ⟨r, h2, h1⟩ := isSimple_eq p hs.rows
    simp only [cdf h, toPoset_eq hs, Option.bind_some, h1, h2, eqPoset_eq hs]
    simp


end Go.Proofs.Ytlndlclemhfekaa
