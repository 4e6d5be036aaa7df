import Derived.Test.YtcgoaplbnjcboaaPTab
import Derived.Test.YtcgoaplbnjcboaaHA
import Derived.KernelRfl
set_option linter.unusedVariables false
set_option linter.unusedSimpArgs false
namespace Go.Proofs.Ytcgoaplbnjcboaa
open Go Go.Gx Go.Proofs

theorem toIntS_l (N : Nat) (k : List Int → Option (List Int × Unit)) : ∀ (n : Nat) (a out : List Int) (i : Nat), a.length - i < n → i ≤ a.length → out.length = a.length → a.length ≤ 1099511627776 →
    zz3_l3 N k n a out i = k (out.take i ++ a.drop i)
  | 0, _, _, _, h, _, _, _ => by omega
  | n + 1, a, out, i, h, hi, ho, hb => by
    simp only [zz3_l3, zz3_b3]
    by_cases hlt : i < a.length
    · rw [cdt (by omega), atI_lt a i hlt, Option.bind_some, atI_lt out i (by omega), Option.bind_some, Int.toNat_natCast, List.getElem?_eq_getElem (by omega), Option.bind_some, wr (by omega) (by omega)]
      have := toIntS_l N k n a (out.set i a[i]) (i + 1) (by omega) (by omega) (by simpa using ho) hb
      rw [show ((i : Int) + 1) = ((i + 1 : Nat) : Int) by omega, this]
      congr 1
      rw [List.take_succ_eq_append_getElem (by simp; omega), List.take_set, List.set_eq_of_length_le (by simp [Nat.min_le_left]), List.append_assoc]
      congr 1
      rw [List.getElem_set_self, List.singleton_append, ← List.drop_eq_getElem_cons hlt]
    · rw [cdf (by omega)]
      have : i = a.length := by omega
      subst this
      rw [List.drop_length, List.append_nil, List.take_of_length_le (by omega)]

theorem toIntS_eq (a : List Int) (h : a.length ≤ 4294967296) : zz3 big a = some (a, ()) := by
  have hb := big_ge
  unfold zz3 zz3_s
  rw [mkI_nat _ _ h, Option.bind_some, Option.bind_some, cdt (by omega)]
  unfold zz3_F3
  have := toIntS_l big zz3_a3 big a (List.replicate a.length 0) 0 (by omega) (by omega) (by simp) (by omega)
  refine Eq.trans this ?_
  simp [zz3_a3]

theorem eqIntS_l (N : Nat) (k : Option (Bool × Unit)) : ∀ (n : Nat) (a b : List Int) (i : Nat), a.length - i < n → i ≤ a.length → b.length = a.length → a.length ≤ 1099511627776 →
    zz40_l4 N k n a b i = if a.drop i = b.drop i then k else some (false, ())
  | 0, _, _, _, h, _, _, _ => by omega
  | n + 1, a, b, i, h, hi, hl, hb => by
    simp only [zz40_l4, zz40_b4]
    by_cases hlt : i < a.length
    · rw [cdt (by omega), atI_lt a i hlt, Option.bind_some, atI_lt b i (by omega), Option.bind_some, wr (by omega) (by omega)]
      have := eqIntS_l N k n a b (i + 1) (by omega) (by omega) hl hb
      rw [show ((i : Int) + 1) = ((i + 1 : Nat) : Int) by omega, this]
      rw [List.drop_eq_getElem_cons hlt, List.drop_eq_getElem_cons (show i < b.length by omega)]
      by_cases hx : a[i] = b[i]
      · rw [cdf (by simpa using hx), hx]; simp only [List.cons.injEq, true_and]
      · rw [cdt hx, if_neg (fun e => hx (by simp only [List.cons.injEq] at e; exact e.1))]
    · rw [cdf (by omega), List.drop_eq_nil_of_le (by omega), List.drop_eq_nil_of_le (by omega)]
      simp

theorem eqIntS_eq (a b : List Int) (h : a.length ≤ 1099511627775) : zz40 big a b = some (decide (a = b), ()) := by
  have hb := big_ge
  unfold zz40 zz40_s
  by_cases hl : a.length = b.length
  · rw [cdf (by simp [hl])]
    unfold zz40_F4
    have := eqIntS_l big zz40_a4 big a b 0 (by omega) (by omega) (by omega) (by omega)
    rw [show (0 : Int) = ((0 : Nat) : Int) from rfl, this]
    simp only [List.drop_zero, zz40_a4]
    by_cases he : a = b <;> simp [he]
  · rw [cdt (by omega)]
    have : a ≠ b := by rintro rfl; exact hl rfl
    simp [this]

theorem l1In_eq (x a b : Int) : zz6 x a b = some (decide (a ≤ x ∧ x ≤ b), ()) := by
  unfold zz6 zz6_s
  by_cases h : a ≤ x <;> simp [h]

def marks : Int → Nat → List Int
  | _, 0 => []
  | k, n + 1 => k :: marks (k + 1) n

theorem marks_len : ∀ (k : Int) (n : Nat), (marks k n).length = n
  | _, 0 => rfl
  | k, n + 1 => by simp [marks, marks_len (k + 1) n]

theorem markIntS_l (N : Nat) (kk : List Int → Int → Option (Int × (List Int × Unit))) : ∀ (n : Nat) (a : List Int) (k : Int) (i : Nat), a.length - i < n → i ≤ a.length → a.length ≤ 1099511627776 → 0 ≤ k → k ≤ 1125899906842624 →
    k + (a.length - i : Nat) ≤ 1125899906842624 → zz43_l2 N kk n a k i = kk (a.take i ++ marks k (a.length - i)) (k + (a.length - i : Nat))
  | 0, _, _, _, h, _, _, _, _, _ => by omega
  | n + 1, a, k, i, h, hi, hb, hk0, hk, hk2 => by
    simp only [zz43_l2, zz43_b2]
    by_cases hlt : i < a.length
    · rw [cdt (by omega), atI_lt a i hlt, Option.bind_some, Int.toNat_natCast, List.getElem?_eq_getElem hlt, Option.bind_some, wr (by omega) (by omega), wr (by omega) (by omega)]
      have := markIntS_l N kk n (a.set i k) (k + 1) (i + 1) (by simp; omega) (by simp; omega) (by simpa using hb) (by omega) (by omega) (by simp; omega)
      rw [show ((i : Int) + 1) = ((i + 1 : Nat) : Int) by omega, this]
      rw [List.length_set, List.take_succ_eq_append_getElem (by simp; omega), List.take_set, List.set_eq_of_length_le (by simp [Nat.min_le_left]), List.append_assoc, List.getElem_set_self]
      have e : a.length - i = (a.length - (i + 1)) + 1 := by omega
      rw [e, marks]
      congr 1
      omega
    · rw [cdf (by omega)]
      have : i = a.length := by omega
      subst this
      simp [marks]

theorem heldIntS_l (N : Nat) (kk : Int → Option (Int × Unit)) : ∀ (n : Nat) (a b : List Int) (k : Int) (d : Nat), d < n → a = b ++ marks k d → a.length ≤ 1099511627776 → 0 ≤ k → k + d ≤ 1125899906842624 →
    zz46_l2 N kk n a k b.length = kk (k + d)
  | 0, _, _, _, _, h, _, _, _, _ => by omega
  | n + 1, a, b, k, d, h, ha, hb, hk0, hk => by
    simp only [zz46_l2, zz46_b2]
    have hlen : a.length = b.length + d := by rw [ha]; simp [marks_len]
    cases d with
    | zero => rw [cdf (by omega)]; simp
    | succ d =>
      have hlt : b.length < a.length := by omega
      have hx : a[b.length] = k := by
        have : a[b.length]? = some k := by rw [ha]; simp [marks]
        rw [List.getElem?_eq_getElem hlt] at this
        simpa using this
      rw [cdt (by omega), atI_lt a b.length hlt, Option.bind_some, hx, cdf (by simp), wr (by omega) (by omega), wr (by omega) (by omega)]
      have := heldIntS_l N kk n a (b ++ [k]) (k + 1) d (by omega) (by rw [ha, marks, List.append_assoc]; rfl) hb (by omega) (by omega)
      rw [List.length_append, List.length_singleton] at this
      rw [show ((b.length : Int) + 1) = ((b.length + 1 : Nat) : Int) by omega, this]
      congr 1
      omega

theorem heldIntS_eq (k : Int) (d : Nat) (h : d ≤ 1099511627775) (hk : 0 ≤ k) (hk2 : k ≤ 1099511627776) : zz46 big (marks k d) k = some (k + d, ()) := by
  have hb := big_ge
  unfold zz46 zz46_s zz46_F2
  exact heldIntS_l big zz46_a2 big (marks k d) [] k d (by omega) rfl (by rw [marks_len]; omega) hk (by omega)

theorem clone_eq (w : List Int) (h : w.length ≤ 4294967296) : zz35 w = some (w, ()) := by
  unfold zz35 zz35_s
  rw [appI_ok (by simp; omega), Option.bind_some]
  simp

def subst (l : Int) (s : List Int) : List Int → List Int
  | [] => []
  | x :: xs => if x = l then s ++ subst l s xs else x :: subst l s xs

theorem eqIntSS_l (N : Nat) (k : Option (Bool × Unit)) : ∀ (n : Nat) (a b : List (List Int)) (i : Nat), a.length - i < n → i ≤ a.length → b.length = a.length → a.length ≤ 1099511627776 → (∀ x ∈ a, x.length ≤ 4294967296) →
    zz41_l4 N k n a b i = if a.drop i = b.drop i then k else some (false, ())
  | 0, _, _, _, h, _, _, _, _ => by omega
  | n + 1, a, b, i, h, hi, hl, hb, hx => by
    simp only [zz41_l4, zz41_b4]
    by_cases hlt : i < a.length
    · have hxx := hx _ (List.getElem_mem hlt)
      rw [cdt (by omega), atI_lt a i hlt, Option.bind_some, atI_lt b i (by omega), Option.bind_some, eqIntS_eq _ _ (by omega), Option.bind_some, wr (by omega) (by omega)]
      have := eqIntSS_l N k n a b (i + 1) (by omega) (by omega) hl hb hx
      rw [show ((i : Int) + 1) = ((i + 1 : Nat) : Int) by omega, this]
      rw [List.drop_eq_getElem_cons hlt, List.drop_eq_getElem_cons (show i < b.length by omega)]
      by_cases hx : a[i] = b[i]
      · rw [hx]; simp only [decide_true, Bool.not_true, cond_false, List.cons.injEq, true_and]
      · rw [decide_eq_false hx]; exact (if_neg (fun e => hx (List.cons.inj e).1)).symm
    · rw [cdf (by omega), List.drop_eq_nil_of_le (by omega), List.drop_eq_nil_of_le (by omega)]
      simp

theorem eqIntSS_eq (a b : List (List Int)) (h : a.length ≤ 1099511627775) (hx : ∀ x ∈ a, x.length ≤ 4294967296) : zz41 big a b = some (decide (a = b), ()) := by
  have hb := big_ge
  unfold zz41 zz41_s
  by_cases hl : a.length = b.length
  · rw [cdf (by simp [hl])]
    unfold zz41_F4
    have := eqIntSS_l big zz41_a4 big a b 0 (by omega) (by omega) (by omega) (by omega) hx
    refine Eq.trans this ?_
    simp only [List.drop_zero, zz41_a4]
    by_cases he : a = b <;> simp [he]
  · rw [cdt (by omega)]
    have : a ≠ b := by rintro rfl; exact hl rfl
    simp [this]

theorem l1Own_eq (w : List Int) (h : w.length ≤ 4294967296) : zz15 w = some (w, ()) := by
  unfold zz15 zz15_s
  rw [appI_ok (by simp; omega), Option.bind_some]
  rfl

theorem markIntS_eq2 (a : List Int) (k : Int) (h : a.length ≤ 1099511627775) (hk : 0 ≤ k) (hk2 : k ≤ 10995116277760) : zz43 big a k = some (k + a.length, (marks k a.length, ())) := by
  have hb := big_ge
  unfold zz43 zz43_s zz43_F2
  have := markIntS_l big zz43_a2 big a k 0 (by omega) (by omega) (by omega) hk (by omega) (by omega)
  refine Eq.trans this ?_
  simp [zz43_a2]

def risingB : List Int → Bool
  | x :: y :: r => decide (x < y) && risingB (y :: r)
  | _ => true

def inB (n : Nat) (x : Int) : Bool := decide (0 ≤ x ∧ x < n)

def isSetB (n : Nat) (s : List Int) : Bool := s.all (inB n) && risingB s

theorem rising_step (l : List Int) (i : Nat) (h : i < l.length) (h1 : 1 ≤ i) : risingB (l.drop (i - 1)) = (decide (l[i - 1] < l[i]) && risingB (l.drop i)) := by
  rw [List.drop_eq_getElem_cons (show i - 1 < l.length by omega), show i - 1 + 1 = i by omega, List.drop_eq_getElem_cons h]
  rfl

theorem rising_end (l : List Int) (i : Nat) (h : l.length ≤ i) (h1 : 1 ≤ i) : risingB (l.drop (i - 1)) = true := by
  by_cases h2 : l.length = i
  · rw [List.drop_eq_getElem_cons (show i - 1 < l.length by omega), List.drop_eq_nil_of_le (by omega)]
    rfl
  · rw [List.drop_eq_nil_of_le (by omega)]
    rfl

theorem specRising_l (N : Nat) {m : Nat} : ∀ (n : Nat) (l : List Int) (i : Nat), l.length - i < n → i ≤ l.length → l.length ≤ 1099511627776 →
    zz7_l2 N zz7_a2 n l 0 ((m : Int) - 1) i = some ((l.drop i).all (inB m) && risingB (l.drop (i - 1)), ())
  | 0, _, _, h, _, _ => by omega
  | n + 1, l, i, h, hi, hb => by
    simp only [zz7_l2, zz7_b2]
    by_cases hlt : i < l.length
    · have e : decide (0 ≤ l[i] ∧ l[i] ≤ (m : Int) - 1) = inB m l[i] := by
        unfold inB; congr 1; exact propext ⟨fun h => ⟨h.1, by omega⟩, fun h => ⟨h.1, by omega⟩⟩
      rw [cdt (by omega), atI_lt l i hlt, Option.bind_some, l1In_eq, Option.bind_some, e, wr (n := (i : Int) + 1) (by omega) (by omega), wr (n := (i : Int) - 1) (by omega) (by omega)]
      rw [show ((i : Int) + 1) = ((i + 1 : Nat) : Int) by omega, specRising_l N n l (i + 1) (by omega) (by omega) hb]
      rw [show i + 1 - 1 = i by omega]
      cases hin : inB m l[i] with
      | false =>
        rw [List.drop_eq_getElem_cons hlt, List.all_cons, hin]
        rfl
      | true =>
        simp only [Bool.not_true, cond_false]
        by_cases h0 : 0 < i
        · rw [cdt (by omega), show ((i : Int) - 1) = ((i - 1 : Nat) : Int) by omega, atI_lt l (i - 1) (by omega), Option.bind_some, Option.bind_some, rising_step l i hlt h0]
          by_cases hle : l[i] ≤ l[i - 1]
          · rw [cdt hle, decide_eq_false (by omega)]
            simp
          · rw [cdf hle, decide_eq_true (show l[i - 1] < l[i] by omega), List.drop_eq_getElem_cons hlt, List.all_cons, hin]
            simp
        · rw [cdf (by omega)]
          have : i = 0 := by omega
          subst this
          rw [show (0 : Nat) - 1 = 0 from rfl, List.drop_eq_getElem_cons hlt, List.all_cons, hin]
          simp
    · rw [cdf (by omega), List.drop_eq_nil_of_le (by omega)]
      by_cases h1 : 1 ≤ i
      · rw [rising_end l i (by omega) h1]; rfl
      · have : l = [] := List.eq_nil_of_length_eq_zero (by omega)
        subst this
        simp [risingB, zz7_a2]

theorem inSize_l (N : Nat) {m : Nat} : ∀ (n : Nat) (l : List Int) (i : Nat), l.length - i < n → i ≤ l.length → l.length ≤ 1099511627776 →
    zz24_l2 N zz24_a2 n (m : Int) l (l.length : Int) i = some ((l.drop i).all (inB m), ())
  | 0, _, _, h, _, _ => by omega
  | n + 1, l, i, h, hi, hb => by
    simp only [zz24_l2, zz24_b2]
    by_cases hlt : i < l.length
    · rw [cdt (by omega), atI_lt l i hlt, Option.bind_some, wr (n := (i : Int) + 1) (by omega) (by omega)]
      rw [show ((i : Int) + 1) = ((i + 1 : Nat) : Int) by omega, inSize_l N n l (i + 1) (by omega) (by omega) hb]
      rw [List.drop_eq_getElem_cons hlt, List.all_cons]
      unfold inB
      by_cases h0 : l[i] < 0
      · rw [cdt h0, decide_eq_false (by omega)]; rfl
      · rw [cdf h0]
        by_cases h1 : (m : Int) ≤ l[i]
        · rw [cdt h1, decide_eq_false (by omega)]; rfl
        · rw [cdf h1, decide_eq_true (by omega)]; rfl
    · rw [cdf (by omega), List.drop_eq_nil_of_le (by omega)]
      rfl

theorem rises_l (N : Nat) : ∀ (n : Nat) (l : List Int) (i : Nat), l.length - i < n → 1 ≤ i → l.length ≤ 1099511627776 → i ≤ 1099511627777 →
    zz23_l2 N zz23_a2 n l i = some (risingB (l.drop (i - 1)), ())
  | 0, _, _, h, _, _, _ => by omega
  | n + 1, l, i, h, hi, hb, hi2 => by
    simp only [zz23_l2, zz23_b2]
    by_cases hlt : i < l.length
    · rw [cdt (by omega), wr (n := (i : Int) - 1) (by omega) (by omega), show ((i : Int) - 1) = ((i - 1 : Nat) : Int) by omega, atI_lt l (i - 1) (by omega), Option.bind_some, atI_lt l i hlt, Option.bind_some, wr (n := (i : Int) + 1) (by omega) (by omega)]
      rw [show ((i : Int) + 1) = ((i + 1 : Nat) : Int) by omega, rises_l N n l (i + 1) (by omega) (by omega) hb (by omega), rising_step l i hlt hi, show i + 1 - 1 = i by omega]
      by_cases hle : l[i] ≤ l[i - 1]
      · rw [cdt hle, decide_eq_false (by omega)]; rfl
      · rw [cdf hle, decide_eq_true (by omega)]; rfl
    · rw [cdf (by omega), rising_end l i (by omega) hi]
      rfl

theorem wr1 {i : Nat} (h : i ≤ 4611686018427387904) : IntKind.i64.wrap ((i : Int) + 1) = ((i + 1 : Nat) : Int) := by rw [wr (by omega) (by omega)]; omega

abbrev PT := List (List Int) × Unit

def pos (n : Nat) (le : Nat → Nat → Bool) : PT := (mkR n fun y => cs (fl n fun x => le x y), ())

def leP (p : PT) (x y : Nat) : Bool := decide ((x : Int) ∈ p.1.getD y [])

structure Ord (n : Nat) (le : Nat → Nat → Bool) : Prop where
  refl : ∀ x, x < n → le x x = true
  anti : ∀ x y, x < n → y < n → x ≠ y → le x y = true → le y x = false
  trans : ∀ x y z, x < n → y < n → z < n → le x y = true → le y z = true → le x z = true

structure Good (p : PT) : Prop where
  len : p.1.length ≤ 10
  rows : ∀ r ∈ p.1, isSetB p.1.length r = true
  ord : Ord p.1.length (leP p)

theorem l1Has_eq (l : List Int) (x : Int) (h : l.length ≤ 4294967296) : zz8 big l x = some (decide (x ∈ l), ()) := by
  unfold zz8 zz8_s
  refine zz8_h2 l.length (fun i => x ∉ l.take i) (by omega) ?_ ?_ 0 (by omega) (by simp)
  · intro rc i hi hv ih
    unfold zz8_b2
    rw [cdt (by omega), atI_lt l i hi, Option.bind_some]
    by_cases hx : l[i] = x
    · rw [cdt hx, decide_eq_true (hx ▸ List.getElem_mem hi)]
    · rw [cdf hx, wr1 (by omega)]
      refine ih fun h => ?_
      rw [List.take_succ_eq_append_getElem hi, List.mem_append, List.mem_singleton] at h
      exact h.elim hv fun e => hx e.symm
  · intro rc hv
    unfold zz8_b2
    rw [cdf (by omega), zz8_a2, decide_eq_false (by simpa using hv)]

theorem l1Has_cs (S : List Nat) (x : Nat) (h : S.length ≤ 4294967296) : zz8 big (cs S) (x : Int) = some (decide (x ∈ S), ()) := by
  rw [l1Has_eq _ _ (by simpa using h)]
  simp only [cs_mem]

theorem l5Within_eq (a b : List Int) (ha : a.length ≤ 4294967296) (hb : b.length ≤ 4294967296) : zz9 big a b = some (tv (∀ x ∈ a, x ∈ b), ()) := by
  unfold zz9 zz9_s
  refine zz9_h2 a.length (fun i => ∀ x ∈ a.take i, x ∈ b) (by omega) ?_ ?_ 0 (by omega) (by simp)
  · intro rc i hi hv ih
    unfold zz9_b2
    rw [cdt (by omega), atI_lt a i hi, Option.bind_some, l1Has_eq _ _ hb, Option.bind_some]
    by_cases hx : a[i] ∈ b
    · rw [decide_eq_true hx, wr1 (by omega)]
      exact ih ((all_take_succ hi).2 ⟨hv, hx⟩)
    · rw [decide_eq_false hx, tv_f fun h => hx (h _ (List.getElem_mem hi))]
      rfl
  · intro rc hv
    unfold zz9_b2
    rw [cdf (by omega), zz9_a2, tv_t (by simpa using hv)]

theorem specRising_eq (n : Nat) (s : List Int) (hn : n ≤ 1099511627776) (hs : s.length ≤ 1099511627775) : zz7 big s 0 ((n : Int) - 1) = some (isSetB n s, ()) := by
  have hb := big_ge
  unfold zz7 zz7_s zz7_F2
  have := specRising_l big (m := n) big s 0 (by omega) (by omega) (by omega)
  rw [show zz7_l2 big zz7_a2 big s 0 ((n : Int) - 1) 0 = _ from this]
  rfl

theorem inSize_eq (n : Nat) (s : List Int) (hs : s.length ≤ 1099511627775) : zz24 big s (n : Int) = some (s.all (inB n), ()) := by
  have hb := big_ge
  unfold zz24 zz24_s zz24_F2
  have h1 := inSize_l big (m := n) big s 0 (by omega) (by omega) (by omega)
  rw [show (0 : Int) = ((0 : Nat) : Int) from rfl, h1]
  rfl

theorem rises_eq (s : List Int) (hs : s.length ≤ 1099511627775) : zz23 big s = some (risingB s, ()) := by
  have hb := big_ge
  unfold zz23 zz23_s zz23_F2
  have h2 := rises_l big big s 1 (by omega) (by omega) (by omega) (by omega)
  rw [show (1 : Int) = ((1 : Nat) : Int) from rfl, h2]
  rfl

theorem rising_pair : ∀ {l : List Int}, risingB l = true → l.Pairwise (· < ·)
  | [], _ => List.Pairwise.nil
  | [x], _ => by simp
  | x :: y :: r, h => by
    simp only [risingB, Bool.and_eq_true, decide_eq_true_eq] at h
    have h2 := rising_pair h.2
    refine List.pairwise_cons.2 ⟨fun z hz => ?_, h2⟩
    rcases List.mem_cons.1 hz with rfl | hz
    · exact h.1
    · have := (List.pairwise_cons.1 h2).1 z hz
      omega

theorem pair_rising : ∀ {l : List Int}, l.Pairwise (· < ·) → risingB l = true
  | [], _ => rfl
  | [x], _ => rfl
  | x :: y :: r, h => by
    have h1 := List.pairwise_cons.1 h
    simp only [risingB, Bool.and_eq_true, decide_eq_true_eq]
    exact ⟨h1.1 y (by simp), pair_rising h1.2⟩

theorem pair_ext : ∀ {l m : List Int}, l.Pairwise (· < ·) → m.Pairwise (· < ·) → (∀ x, x ∈ l ↔ x ∈ m) → l = m
  | [], [], _, _, _ => rfl
  | [], y :: m, _, _, h => by have := (h y).2 (by simp); simp at this
  | x :: l, [], _, _, h => by have := (h x).1 (by simp); simp at this
  | x :: l, y :: m, h1, h2, h => by
    have p1 := List.pairwise_cons.1 h1
    have p2 := List.pairwise_cons.1 h2
    have e : x = y := by
      rcases List.mem_cons.1 ((h x).1 (by simp)) with e | hx
      · exact e
      · rcases List.mem_cons.1 ((h y).2 (by simp)) with e | hy
        · exact e.symm
        · have := p1.1 y hy
          have := p2.1 x hx
          omega
    subst e
    congr 1
    refine pair_ext p1.2 p2.2 fun z => ?_
    constructor
    · intro hz
      rcases List.mem_cons.1 ((h z).1 (List.mem_cons_of_mem _ hz)) with e | hz2
      · have := p1.1 z hz; omega
      · exact hz2
    · intro hz
      rcases List.mem_cons.1 ((h z).2 (List.mem_cons_of_mem _ hz)) with e | hz2
      · have := p2.1 z hz; omega
      · exact hz2

theorem fl_pair (n : Nat) (P : Nat → Bool) : (cs (fl n P)).Pairwise (· < ·) := by
  unfold cs fl
  rw [List.pairwise_map]
  refine List.Pairwise.filter _ ?_
  have := List.pairwise_lt_range (n := n)
  exact this.imp fun h => by omega

theorem setB_form {n : Nat} {l : List Int} (h : isSetB n l = true) : l = cs (fl n fun x => decide ((x : Int) ∈ l)) := by
  unfold isSetB at h
  rw [Bool.and_eq_true] at h
  refine pair_ext (rising_pair h.2) (fl_pair _ _) fun x => ?_
  constructor
  · intro hx
    have h1 := List.all_eq_true.1 h.1 x hx
    unfold inB at h1
    rw [decide_eq_true_eq] at h1
    have e : x = ((x.toNat : Nat) : Int) := by omega
    rw [e, cs_mem, fl_mem]
    refine ⟨by omega, decide_eq_true ?_⟩
    rw [← e]; exact hx
  · intro hx
    unfold cs at hx
    obtain ⟨y, hy, e⟩ := List.mem_map.1 hx
    have := (fl_mem.1 hy).2
    rw [decide_eq_true_eq] at this
    exact e ▸ this

theorem fl_setB (n : Nat) (P : Nat → Bool) : isSetB n (cs (fl n P)) = true := by
  unfold isSetB
  rw [Bool.and_eq_true]
  refine ⟨List.all_eq_true.2 fun x hx => ?_, pair_rising (fl_pair n P)⟩
  unfold cs at hx
  obtain ⟨y, hy, e⟩ := List.mem_map.1 hx
  have := (fl_mem.1 hy).1
  unfold inB
  exact decide_eq_true (by omega)

theorem pos_form {p : PT} (h : ∀ r ∈ p.1, isSetB p.1.length r = true) : p = pos p.1.length (leP p) := by
  unfold pos
  refine Prod.ext ?_ rfl
  refine eq_mkR rfl fun i hi => ?_
  refine (setB_form (h _ (List.getElem_mem hi))).trans ?_
  refine congrArg cs (fl_congr fun x hx => ?_)
  unfold leP
  simp [hi]

theorem pos_len (n : Nat) (le : Nat → Nat → Bool) : (pos n le).1.length = n := mkR_len n _

theorem pos_rows (n : Nat) (le : Nat → Nat → Bool) : ∀ r ∈ (pos n le).1, isSetB (pos n le).1.length r = true := by
  intro r hr
  rw [pos_len]
  obtain ⟨i, _, e⟩ := mkR_mem.1 hr
  exact e ▸ fl_setB _ _

theorem leP_pos {n : Nat} {le : Nat → Nat → Bool} {x y : Nat} (hx : x < n) (hy : y < n) : leP (pos n le) x y = le x y := by
  unfold leP pos
  simp only [List.getD_eq_getElem?_getD, get_mkR hy, Option.getD_some, cs_mem, fl_mem, hx, true_and, Bool.decide_eq_true]

theorem Ord.congr {n : Nat} {le le' : Nat → Nat → Bool} (e : ∀ x y, x < n → y < n → le x y = le' x y) (h : Ord n le) : Ord n le' where
  refl x hx := by rw [← e x x hx hx]; exact h.refl x hx
  anti x y hx hy hxy h1 := by rw [← e y x hy hx]; rw [← e x y hx hy] at h1; exact h.anti x y hx hy hxy h1
  trans x y z hx hy hz h1 h2 := by
    rw [← e x z hx hz]; rw [← e x y hx hy] at h1; rw [← e y z hy hz] at h2
    exact h.trans x y z hx hy hz h1 h2

theorem good_pos {n : Nat} {le : Nat → Nat → Bool} : Good (pos n le) ↔ n ≤ 10 ∧ Ord n le := by
  have e : ∀ x y, x < n → y < n → leP (pos n le) x y = le x y := fun x y hx hy => leP_pos hx hy
  constructor
  · intro h
    have h1 := h.len; have h2 := h.ord
    rw [pos_len] at h1 h2
    exact ⟨h1, h2.congr e⟩
  · intro h
    refine ⟨by rw [pos_len]; exact h.1, pos_rows n le, ?_⟩
    rw [pos_len]
    exact h.2.congr fun x y hx hy => (e x y hx hy).symm

theorem Good.form {p : PT} (h : Good p) : p = pos p.1.length (leP p) := pos_form h.rows

theorem newOrder_eq {n : Nat} (h : n ≤ 4294967296) : zz22 big (n : Int) = some (mkT n fun _ _ => false, ()) := by
  unfold zz22 zz22_s
  rw [mkI_mkR h, Option.bind_some, Option.bind_some, cdt (by omega), mkR_len]
  refine zz22_h3 n (fun i o => o = mkR n fun x => if x < i then mkR n fun _ => false else []) (by omega) ?_ ?_ 0 (by omega) _ (by simp)
  · intro rc i o hi hv ih
    unfold zz22_b3
    rw [cdt (by omega), mkI_mkR h, Option.bind_some, Option.bind_some, cdt (by omega), hv, atI_mkR hi, Option.bind_some, Int.toNat_natCast, get_mkR hi, Option.bind_some, wr1 (by omega)]
    refine ih _ ?_
    rw [mkR_set]
    refine mkR_congr fun x hx => ?_
    by_cases h1 : x = i
    · rw [if_pos h1, if_pos (by omega)]
    · rw [if_neg h1]
      by_cases h2 : x < i
      · rw [if_pos h2, if_pos (by omega)]
      · rw [if_neg h2, if_neg (by omega)]
  · intro rc o hv
    unfold zz22_b3
    rw [cdf (by omega), hv, zz22_a3]
    congr 2
    exact mkR_congr fun x hx => by rw [if_pos hx]

theorem isOrder_eq {n : Nat} {le : Nat → Nat → Bool} (hn : n ≤ 4294967296) : zz25 big (mkT n le) = some (tv (Ord n le), ()) := by
  unfold zz25 zz25_s
  rw [mkR_len]
  refine zz25_h2 n (fun i => ∀ x, x < i → le x x = true ∧ (∀ y, y < n → (x ≠ y → le x y = true → le y x = false) ∧ ∀ z, z < n → le x y = true → le y z = true → le x z = true)) (by omega) ?_ ?_ 0 (by omega) (by intro x hx; omega)
  · intro rc i hi hv ih
    unfold zz25_b2
    rw [cdt (by omega), atI_mkR hi, Option.bind_some, atI_mkR hi, Option.bind_some, mkR_len]
    cases h0 : le i i with
    | false =>
      rw [tv_f fun h => by rw [h.refl i hi] at h0; cases h0]
      rfl
    | true =>
      rw [Bool.not_true, cond_false]
      refine zz25_h7 n (fun j => ∀ y, y < j → (i ≠ y → le i y = true → le y i = false) ∧ ∀ z, z < n → le i y = true → le y z = true → le i z = true) (by omega) ?_ ?_ 0 (by omega) (by intro x hx; omega)
      · intro rc2 j hj hv2 ih2
        have inn : (i ≠ j → le i j = true → le j i = false) → zz25_F12 big rc2 (zz25_a7 rc) (mkT n le) (i : Int) (j : Int) (n : Int) (i : Int) (n : Int) (j : Int) (n : Int) ((0 : Nat) : Int) = some (tv (Ord n le), ()) := by
          intro hij
          refine zz25_h12 n (fun k => ∀ z, z < k → le i j = true → le j z = true → le i z = true) (by omega) ?_ ?_ 0 (by omega) (by intro x hx; omega)
          · intro rc3 k hk hv3 ih3
            unfold zz25_b12
            simp only [cdt (show (k : Int) < (n : Int) by omega), atI_mkR hi, atI_mkR hj, atI_mkR hk, Option.bind_some, wr1 (show k ≤ 4611686018427387904 by omega)]
            cases h1 : le i j with
            | false => exact ih3 (all_lt_succ.2 ⟨hv3, by intro h; rw [h1] at h; cases h⟩)
            | true =>
              cases h2 : le j k with
              | false => exact ih3 (all_lt_succ.2 ⟨hv3, by intro _ h; rw [h2] at h; cases h⟩)
              | true =>
                cases h3 : le i k with
                | false =>
                  rw [tv_f fun h => by rw [h.trans i j k hi hj hk h1 h2] at h3; cases h3]
                  rfl
                | true => exact ih3 (all_lt_succ.2 ⟨hv3, fun _ _ => h3⟩)
          · intro rc3 hv3
            unfold zz25_b12
            rw [cdf (by omega), zz25_a12, wr1 (by omega)]
            exact ih2 (all_lt_succ.2 ⟨hv2, hij, hv3⟩)
        unfold zz25_b7
        rw [cdt (by omega), atI_mkR hi, Option.bind_some, atI_mkR hj, Option.bind_some, atI_mkR hj, Option.bind_some, atI_mkR hi, Option.bind_some, mkR_len]
        by_cases hij : i = j
        · rw [cdf (by omega)]
          exact inn fun h => absurd hij h
        · rw [cdt (by omega)]
          cases h1 : le i j with
          | false => exact inn fun _ h => by rw [h1] at h; cases h
          | true =>
            cases h2 : le j i with
            | false => exact inn fun _ _ => h2
            | true =>
              rw [tv_f fun h => by rw [h.anti i j hi hj hij h1] at h2; cases h2]
              rfl
      · intro rc2 hv2
        unfold zz25_b7
        rw [cdf (by omega), zz25_a7, wr1 (by omega)]
        exact ih (all_lt_succ.2 ⟨hv, h0, hv2⟩)
  · intro rc hv
    unfold zz25_b2
    rw [cdf (by omega), zz25_a2, tv_t]
    exact ⟨fun x hx => (hv x hx).1, fun x y hx hy => ((hv x hx).2 y hy).1, fun x y z hx hy hz => ((hv x hx).2 y hy).2 z hz⟩

theorem mkT_set {α : Type} {n : Nat} {f : Nat → Nat → α} {x y : Nat} {v : α} : (mkT n f).set x ((mkR n (f x)).set y v) = mkT n fun a b => if a = x ∧ b = y then v else f a b := by
  rw [mkR_set]
  refine mkR_congr fun a ha => ?_
  by_cases h : a = x
  · subst h
    rw [if_pos rfl, mkR_set]
    exact mkR_congr fun b hb => by simp
  · rw [if_neg h]
    exact mkR_congr fun b hb => by simp [h]

theorem orderOf_eq (p : PT) (hl : p.1.length ≤ 10) (hx : ∀ r ∈ p.1, r.length ≤ 4294967296) :
    zz26 big p = some (@ite _ (∀ r ∈ p.1, isSetB p.1.length r = true) (Classical.propDecidable _) (mkT p.1.length (leP p), tv (Ord p.1.length (leP p)), ()) ([], false, ()), ()) := by
  unfold zz26 zz26_s
  generalize hn : p.1.length = n
  rw [cdf (by omega), newOrder_eq (by omega), Option.bind_some]
  refine zz26_h6 n (fun i o => (∀ j, j < i → ∀ (h : j < p.1.length), isSetB n p.1[j] = true) ∧ o = mkT n fun a b => decide (b < i) && leP p a b) (by omega) ?_ ?_ 0 (by omega) _ ⟨by intro j hj; omega, mkT_congr fun a b _ _ => by simp⟩
  · intro rc i o hi hv ih
    obtain ⟨hv1, hv2⟩ := hv
    unfold zz26_b6
    have hip : i < p.1.length := by omega
    have hrow := hx _ (List.getElem_mem hip)
    rw [cdt (by omega), atI_lt _ i hip, Option.bind_some, rises_eq _ (by omega), Option.bind_some]
    cases h1 : risingB p.1[i] with
    | false =>
      rw [if_neg fun h => by have := h _ (List.getElem_mem hip); unfold isSetB at this; rw [h1, Bool.and_false] at this; cases this]
      rfl
    | true =>
      rw [Bool.not_true, cond_false, inSize_eq n _ (by omega), Option.bind_some]
      cases h2 : p.1[i].all (inB n) with
      | false =>
        rw [if_neg fun h => by have := h _ (List.getElem_mem hip); unfold isSetB at this; rw [h2, Bool.false_and] at this; cases this]
        rfl
      | true =>
        rw [Bool.not_true, cond_false]
        have hset : isSetB n p.1[i] = true := by unfold isSetB; rw [h1, h2]; rfl
        have hle : ∀ a, leP p a i = decide ((a : Int) ∈ p.1[i]) := by intro a; unfold leP; simp [hip]
        have hform := setB_form hset
        have hS : ∀ a, a ∈ fl n (fun x => decide ((x : Int) ∈ p.1[i])) ↔ a < n ∧ leP p a i = true := by
          intro a; rw [fl_mem, hle]
        generalize fl n (fun x => decide ((x : Int) ∈ p.1[i])) = S at hform hS
        rw [hform, cs_len]
        refine zz26_h11 S.length (fun k o => o = mkT n fun a b => if b < i then leP p a b else decide (b = i ∧ a ∈ S.take k)) ?_ ?_ ?_ 0 (by omega) _ ?_
        · have := congrArg List.length hform
          rw [cs_len] at this
          have := hx _ (List.getElem_mem hip)
          omega
        · intro rc2 k o2 hk hv3 ih2
          have hkn : S[k] < n := ((hS _).1 (List.getElem_mem hk)).1
          have hkS : S.length ≤ 4294967296 := by have := congrArg List.length hform; rw [cs_len] at this; omega
          unfold zz26_b11
          simp only [cdt (show (k : Int) < (S.length : Int) by omega), atI_cs hk, Option.bind_some, hv3, atI_mkR hkn, Int.toNat_natCast, get_mkR hkn, atI_mkR hi, get_mkR hi, wr1 (show k ≤ 4611686018427387904 by omega)]
          refine ih2 _ ?_
          rw [mkT_set]
          refine mkT_congr fun a b _ _ => ?_
          by_cases hb : b < i
          · rw [if_pos hb, if_pos hb, if_neg (by omega)]
          · rw [if_neg hb, if_neg hb]
            simp only [mem_take_succ hk]
            by_cases hbi : b = i
            · by_cases ha : a = S[k]
              · simp [hbi, ha]
              · simp [hbi, ha]
            · simp [hbi]
        · intro rc2 o2 hv3
          unfold zz26_b11
          rw [cdf (by omega), zz26_a11, wr1 (by omega)]
          refine ih _ ⟨fun j hj hjp => ?_, ?_⟩
          · rcases Nat.lt_or_ge j i with h | h
            · exact hv1 j h hjp
            · have : j = i := by omega
              subst this; exact hset
          · rw [hv3]
            refine mkT_congr fun a b ha _ => ?_
            by_cases hb : b < i
            · rw [if_pos hb]; simp [show b < i + 1 by omega]
            · rw [if_neg hb, List.take_length]
              by_cases hbi : b = i
              · subst hbi
                rw [decide_eq_true (show b < b + 1 by omega), Bool.true_and]
                cases h : leP p a b with
                | true => exact decide_eq_true ⟨rfl, (hS a).2 ⟨ha, h⟩⟩
                | false => exact decide_eq_false fun h3 => by rw [((hS a).1 h3.2).2] at h; cases h
              · simp [hbi, show ¬ b < i + 1 by omega]
        · rw [hv2]
          refine mkT_congr fun a b _ _ => ?_
          by_cases hb : b < i
          · simp [hb]
          · simp [hb]
  · intro rc o hv
    obtain ⟨hv1, hv2⟩ := hv
    unfold zz26_b6
    have ho : o = mkT n (leP p) := by rw [hv2]; exact mkT_congr fun a b _ hb => by simp [hb]
    rw [cdf (by omega), zz26_a6, ho, isOrder_eq (by omega), Option.bind_some, if_pos]
    intro r hr
    obtain ⟨j, hj, e⟩ := List.getElem_of_mem hr
    exact e ▸ hv1 j (by omega) hj

theorem orderOf_bad (p : PT) (hl : ¬ p.1.length ≤ 10) : zz26 big p = some (([], false, ()), ()) := by
  unfold zz26 zz26_s
  rw [cdt (by omega)]

theorem orderOf_no (p : PT) (hx : ∀ r ∈ p.1, r.length ≤ 4294967296) (h : ¬ Good p) : ∃ T, zz26 big p = some ((T, false, ()), ()) := by
  by_cases hl : p.1.length ≤ 10
  · rw [orderOf_eq p hl hx]
    by_cases hr : ∀ r ∈ p.1, isSetB p.1.length r = true
    · rw [if_pos hr, tv_f fun ho => h ⟨hl, hr, ho⟩]
      exact ⟨_, rfl⟩
    · rw [if_neg hr]
      exact ⟨_, rfl⟩
  · exact ⟨_, orderOf_bad p hl⟩

theorem orderOf_pos {n : Nat} {le : Nat → Nat → Bool} (hn : n ≤ 10) (ho : Ord n le) : zz26 big (pos n le) = some ((mkT n le, true, ()), ()) := by
  have e : ∀ x y, x < n → y < n → leP (pos n le) x y = le x y := fun x y hx hy => leP_pos hx hy
  rw [orderOf_eq _ (by rw [pos_len]; exact hn) ?_, if_pos (pos_rows n le), pos_len, tv_t (ho.congr fun x y hx hy => (e x y hx hy).symm)]
  · congr 3
    exact mkT_congr fun x y hx hy => e x y hx hy
  · intro r hr
    obtain ⟨i, _, h⟩ := mkR_mem.1 hr
    rw [← h, cs_len]
    have := fl_len n fun x => le x i
    omega

theorem atI_pos {n x : Nat} {le : Nat → Nat → Bool} (hx : x < n) : atI (pos n le).1 (x : Int) = some (cs (fl n fun a => le a x)) := atI_mkR hx

theorem l23Leq_pos {n x y : Nat} {le : Nat → Nat → Bool} (hn : n ≤ 4294967296) (hx : x < n) (hy : y < n) : zz11 (pos n le) (x : Int) (y : Int) = some (le x y, ()) := by
  unfold zz11 zz11_s
  have := fl_len n fun a => le a y
  rw [atI_pos hy, Option.bind_some, l1Has_cs _ _ (by omega), Option.bind_some]
  congr 2
  rw [Bool.eq_iff_iff, decide_eq_true_eq, fl_mem]
  simp [hx]

theorem within_fl {n : Nat} {P Q : Nat → Bool} (hn : n ≤ 4294967296) : zz9 big (cs (fl n P)) (cs (fl n Q)) = some (tv (∀ x, x < n → P x = true → Q x = true), ()) := by
  have h1 := fl_len n P
  have h2 := fl_len n Q
  rw [l5Within_eq _ _ (by rw [cs_len]; omega) (by rw [cs_len]; omega)]
  congr 2
  refine tv_congr ⟨fun h x hx hp => ?_, fun h x hx => ?_⟩
  · exact (fl_mem.1 (cs_mem.1 (h _ (cs_mem.2 (fl_mem.2 ⟨hx, hp⟩))))).2
  · unfold cs at hx
    obtain ⟨y, hy, e⟩ := List.mem_map.1 hx
    have := fl_mem.1 hy
    rw [← e]
    exact cs_mem.2 (fl_mem.2 ⟨this.1, h y this.1 this.2⟩)

theorem specPoset_eq (p : PT) (hx : ∀ r ∈ p.1, r.length ≤ 4294967296) : zz10 big p = some (tv (Good p), ()) := by
  unfold zz10 zz10_s
  by_cases hl : p.1.length ≤ 10
  · generalize hn : p.1.length = n
    rw [cdf (by omega)]
    refine zz10_h5 n (fun i => ∀ j, j < i → ∀ (h : j < p.1.length), isSetB n p.1[j] = true ∧ leP p j j = true) (by omega) ?_ ?_ 0 (by omega) (by intro j hj; omega)
    · intro rc i hi hv ih
      have hip : i < p.1.length := by omega
      have hrow := hx _ (List.getElem_mem hip)
      have hle : ∀ a, leP p a i = decide ((a : Int) ∈ p.1[i]) := by intro a; unfold leP; simp [hip]
      unfold zz10_b5
      rw [cdt (by omega), atI_lt _ i hip, Option.bind_some, wr (by omega) (by omega), specRising_eq n _ (by omega) (by omega), Option.bind_some]
      cases h1 : isSetB n p.1[i] with
      | false =>
        rw [tv_f fun h => by have := h.rows _ (List.getElem_mem hip); rw [hn, h1] at this; cases this]
        rfl
      | true =>
        rw [Bool.not_true, cond_false, Option.bind_some, l1Has_eq _ _ hrow, Option.bind_some, ← hle]
        cases h2 : leP p i i with
        | false =>
          rw [tv_f fun h => by have := h.ord.refl i hip; rw [h2] at this; cases this]
          rfl
        | true =>
          rw [Bool.not_true, cond_false, wr1 (by omega)]
          refine ih fun j hj hjp => ?_
          rcases Nat.lt_or_ge j i with h | h
          · exact hv j h hjp
          · have : j = i := by omega
            subst this; exact ⟨h1, h2⟩
    · intro rc hv
      unfold zz10_b5
      rw [cdf (by omega), zz10_a5]
      have hrows : ∀ r ∈ p.1, isSetB p.1.length r = true := by
        intro r hr
        obtain ⟨j, hj, e⟩ := List.getElem_of_mem hr
        rw [hn]
        exact e ▸ (hv j (by omega) hj).1
      have hform := pos_form hrows
      have hrefl : ∀ x, x < n → leP p x x = true := fun x hxn => (hv x hxn (by omega)).2
      generalize leP p = le at hform hrefl
      rw [hn] at hform
      subst hform
      rw [tv_congr good_pos]
      refine zz10_h10 n (fun i => ∀ x, x < i → ∀ y, y < n → le y x = true → (y ≠ x → le x y = false) ∧ ∀ z, z < n → le z y = true → le z x = true) (by omega) ?_ ?_ 0 (by omega) (by intro j hj; omega)
      · intro rc2 i hi hv2 ih2
        unfold zz10_b10
        rw [cdt (by omega)]
        have hS : ∀ a, a ∈ fl n (fun a => le a i) ↔ a < n ∧ le a i = true := fun a => fl_mem
        have hSl := fl_len n fun a => le a i
        refine zz10_h13 (fl n fun a => le a i).length (fun k => ∀ y ∈ (fl n fun a => le a i).take k, (y ≠ i → le i y = false) ∧ ∀ z, z < n → le z y = true → le z i = true) (by omega) ?_ ?_ 0 (by omega) (by simp)
        · intro rc3 k hk hv3 ih3
          have hk2 := (hS _).1 (List.getElem_mem hk)
          have hk3 := atI_cs hk
          have hk4 : ∀ {P : Nat → Prop}, (∀ y ∈ (fl n fun a => le a i).take (k + 1), P y) ↔ _ := all_take_succ hk
          unfold zz10_b13
          generalize (fl n fun a => le a i)[k] = y at hk2 hk3 hk4
          have hkl := fl_len n fun a => le a y
          simp only [atI_pos hi, Option.bind_some, cs_len, cdt (show (k : Int) < ((fl n fun a => le a i).length : Int) by omega), hk3, atI_pos hk2.1, l1Has_cs (fl n fun a => le a y) i (by omega), within_fl (P := fun a => le a y) (Q := fun a => le a i) (show n ≤ 4294967296 by omega), wr1 (show k ≤ 4611686018427387904 by omega)]
          have e1 : decide (i ∈ fl n fun a => le a y) = le i y := by
            rw [Bool.eq_iff_iff, decide_eq_true_eq, fl_mem]; simp [hi]
          rw [e1]
          have key : (y ≠ i → le i y = false) → cond (!tv (∀ x, x < n → le x y = true → le x i = true)) (some (false, ())) (rc3 (pos n le) (n : Int) (i : Int) ((k + 1 : Nat) : Int)) = some (tv (n ≤ 10 ∧ Ord n le), ()) := by
            intro h1
            by_cases h2 : ∀ x, x < n → le x y = true → le x i = true
            · rw [tv_t h2]
              exact ih3 (hk4.2 ⟨hv3, h1, h2⟩)
            · rw [tv_f h2, tv_f fun h => h2 fun x hxn h3 => h.2.trans _ _ _ hxn hk2.1 hi h3 hk2.2]
              rfl
          by_cases h1 : y = i
          · rw [cdf (by omega)]
            exact key fun h => absurd h1 h
          · rw [cdt (by omega)]
            cases h2 : le i y with
            | true =>
              rw [tv_f (P := n ≤ 10 ∧ Ord n le) fun h => by rw [h.2.anti _ _ hk2.1 hi h1 hk2.2] at h2; cases h2]
              rfl
            | false =>
              rw [cond_false]
              exact key fun _ => h2
        · intro rc3 hv3
          rw [List.take_length] at hv3
          unfold zz10_b13
          rw [atI_pos hi, Option.bind_some, cs_len, cdf (by omega), zz10_a13, wr1 (by omega)]
          exact ih2 (all_lt_succ.2 ⟨hv2, fun y hy hyi => hv3 y ((hS y).2 ⟨hy, hyi⟩)⟩)
      · intro rc2 hv2
        unfold zz10_b10
        rw [cdf (by omega), zz10_a10, tv_t]
        refine ⟨by rw [pos_len] at hl; exact hl, fun x hx => hrefl x hx, fun x y hx hy hxy h => ((hv2 y hy x hx h).1 hxy), fun x y z hx hy hz h1 h2 => (hv2 z hz y hy h2).2 x hx h1⟩
  · rw [cdt (by omega), tv_f fun h => hl h.len]

abbrev du (le : Nat → Nat → Bool) : Nat → Nat → Bool := fun x y => le y x

def low (n : Nat) (le : Nat → Nat → Bool) (S : List Nat) : List Nat := fl n fun z => S.all fun s => le z s

def grt (le : Nat → Nat → Bool) (L : List Nat) : Int := match L.find? fun x => L.all fun y => le y x with
  | some x => (x : Int)
  | none => -1

def bnd (n : Nat) (le : Nat → Nat → Bool) (S : List Nat) : Int := grt le (low n le S)

structure IsGlb (n : Nat) (le : Nat → Nat → Bool) (S : List Nat) (m : Nat) : Prop where
  lt : m < n
  lo : ∀ s ∈ S, le m s = true
  gr : ∀ z, z < n → (∀ s ∈ S, le z s = true) → le z m = true

theorem low_mem {n : Nat} {le : Nat → Nat → Bool} {S : List Nat} {z : Nat} : z ∈ low n le S ↔ z < n ∧ ∀ s ∈ S, le z s = true := by
  unfold low
  rw [fl_mem, List.all_eq_true]

theorem glb_of_bnd {n : Nat} {le : Nat → Nat → Bool} {S : List Nat} (h : 0 ≤ bnd n le S) : IsGlb n le S (bnd n le S).toNat := by
  unfold bnd grt at *
  cases hf : (low n le S).find? fun x => (low n le S).all fun y => le y x with
  | none => rw [hf] at h; exact absurd h (by decide)
  | some x =>
    have h1 := List.find?_some hf
    have h2 := low_mem.1 (List.mem_of_find?_eq_some hf)
    simp only [Int.toNat_natCast]
    exact ⟨h2.1, h2.2, fun z hz hs => List.all_eq_true.1 h1 z (low_mem.2 ⟨hz, hs⟩)⟩

theorem glb_unique {n : Nat} {le : Nat → Nat → Bool} (ho : Ord n le) {S : List Nat} {m k : Nat} (h : IsGlb n le S m) (h2 : IsGlb n le S k) : m = k := by
  by_cases e : m = k
  · exact e
  · have h3 := h.gr k h2.lt h2.lo
    have h4 := h2.gr m h.lt h.lo
    have := ho.anti m k h.lt h2.lt e h4
    rw [this] at h3; cases h3

theorem bnd_of_glb {n : Nat} {le : Nat → Nat → Bool} (ho : Ord n le) {S : List Nat} {m : Nat} (h : IsGlb n le S m) : bnd n le S = (m : Int) := by
  have h0 : 0 ≤ bnd n le S := by
    unfold bnd grt
    cases hf : (low n le S).find? fun x => (low n le S).all fun y => le y x with
    | none =>
      have := List.find?_eq_none.1 hf m (low_mem.2 ⟨h.lt, h.lo⟩)
      exact absurd (List.all_eq_true.2 fun y hy => h.gr y (low_mem.1 hy).1 (low_mem.1 hy).2) this
    | some x => simp
  have := glb_unique ho (glb_of_bnd h0) h
  omega

theorem greatest_eq {n : Nat} {le : Nat → Nat → Bool} {L : List Nat} (hL : ∀ x ∈ L, x < n) (hl : L.length ≤ 4294967296) : zz27 big (mkT n le) (cs L) = some (grt le L, ()) := by
  unfold zz27 zz27_s
  rw [cs_len]
  refine zz27_h2 L.length (fun i => ∀ x ∈ L.take i, ¬ (L.all fun y => le y x) = true) (by omega) ?_ ?_ 0 (by omega) (by simp)
  · intro rc i hi hv ih
    have hx := hL _ (List.getElem_mem hi)
    have hh := @find_hit _ L (fun x => L.all fun y => le y x) i hi hv
    have hn := fun h => ih ((all_take_succ hi).2 ⟨hv, h⟩)
    unfold zz27_b2
    rw [cdt (by omega), atI_cs hi, Option.bind_some, cs_len]
    generalize L[i] = x at hx hh hn
    refine zz27_h6 L.length (fun k b => b = (L.take k).all fun y => le y x) (by omega) ?_ ?_ 0 (by omega) _ rfl
    · intro rc2 k b hk hb ih2
      have hy := hL _ (List.getElem_mem hk)
      have ht := @all_take _ L k hk fun y => le y x
      have ha := atI_cs hk
      unfold zz27_b6
      rw [cdt (by omega), ha, Option.bind_some, wr1 (by omega)]
      generalize L[k] = y at hy ht
      cases b with
      | false => exact ih2 _ (by rw [ht, ← hb]; rfl)
      | true =>
        rw [cond_true, atI_mkR hy, Option.bind_some, atI_mkR hx, Option.bind_some]
        exact ih2 _ (by rw [ht, ← hb]; rfl)
    · intro rc2 b hb
      rw [List.take_length] at hb
      unfold zz27_b6
      rw [cdf (by omega), zz27_a6, hb]
      cases h : L.all fun y => le y x with
      | true =>
        rw [cond_true]
        unfold grt
        rw [hh h]
      | false =>
        rw [cond_false, wr1 (by omega)]
        exact hn (by rw [h]; simp)
  · intro rc hv
    rw [List.take_length] at hv
    unfold zz27_b2
    rw [cdf (by omega), zz27_a2]
    unfold grt
    rw [List.find?_eq_none.2 hv]

theorem low2 {n : Nat} {le : Nat → Nat → Bool} {x y : Nat} : low n le [x, y] = fl n fun z => le z x && le z y := by
  unfold low
  congr 1; funext z; simp

theorem those_meet {n : Nat} {le : Nat → Nat → Bool} (hn : n ≤ 1048576) {x y : Nat} (hx : x < n) (hy : y < n) : zz29 big (mkT n le) (mkT n le, (x : Int), (y : Int), ()) = some (cs (low n le [x, y]), ()) := by
  unfold zz29 zz29_s
  rw [mkR_len, low2]
  refine zz29_h3 n (fun i l => l = cs (fl i fun z => le z x && le z y)) (by omega) ?_ ?_ 0 (by omega) _ rfl
  · intro rc i l hi hv ih
    have hl := fl_len i fun z => le z x && le z y
    unfold zz29_b3 zz28 zz28_s
    simp only [cdt (show (i : Int) < (n : Int) by omega), atI_mkR hi, atI_mkR hx, atI_mkR hy, Option.bind_some, wr1 (show i ≤ 4611686018427387904 by omega)]
    cases h1 : le i x with
    | false => exact ih _ (by rw [hv]; exact fl_f (P := fun z => le z x && le z y) (by simp [h1]))
    | true =>
      simp only [cond_true, Option.bind_some]
      cases h2 : le i y with
      | false => exact ih _ (by rw [hv]; exact fl_f (P := fun z => le z x && le z y) (by simp [h1, h2]))
      | true =>
        rw [cond_true, app1 (by rw [hv, cs_len]; omega), Option.bind_some]
        exact ih _ (by rw [hv]; exact fl_t (P := fun z => le z x && le z y) (by simp [h1, h2]))
  · intro rc l hv
    unfold zz29_b3
    rw [cdf (by omega), zz29_a3, hv]

theorem low_lt {n : Nat} {le : Nat → Nat → Bool} {S : List Nat} : ∀ x ∈ low n le S, x < n := fun x hx => (low_mem.1 hx).1

theorem low_len {n : Nat} {le : Nat → Nat → Bool} {S : List Nat} : (low n le S).length ≤ n := fl_len _ _

theorem meetTable_eq {n : Nat} {le : Nat → Nat → Bool} (hn : n ≤ 1048576) : zz30 big (mkT n le) = some (@ite _ (∀ x y, x < n → y < n → 0 ≤ bnd n le [x, y]) (Classical.propDecidable _) (mkT n fun x y => bnd n le [x, y], true, ()) ([], false, ()), ()) := by
  unfold zz30 zz30_s
  rw [mkR_len]
  refine zz30_h3 n (fun i t => t = (mkR i fun x => mkR n fun y => bnd n le [x, y]) ∧ ∀ x, x < i → ∀ y, y < n → 0 ≤ bnd n le [x, y]) (by omega) ?_ ?_ 0 (by omega) _ ⟨rfl, by intro x hx; omega⟩
  · intro rc i t hi hv ih
    unfold zz30_b3
    rw [cdt (by omega), mkR_len]
    refine zz30_h7 n (fun j r => r = (mkR j fun y => bnd n le [i, y]) ∧ ∀ y, y < j → 0 ≤ bnd n le [i, y]) (by omega) ?_ ?_ 0 (by omega) _ ⟨rfl, by intro x hx; omega⟩
    · intro rc2 j r hj hr ih2
      unfold zz30_b7
      rw [cdt (by omega), those_meet hn hi hj, Option.bind_some, greatest_eq low_lt (by have := @low_len n le [i, j]; omega), Option.bind_some]
      show cond (decide (bnd n le [i, j] < 0)) _ ((appI r [bnd n le [i, j]]).bind _) = _
      by_cases h : 0 ≤ bnd n le [i, j]
      · rw [cdf (by omega), app1 (by rw [hr.1, mkR_len]; omega), Option.bind_some, wr1 (by omega)]
        exact ih2 _ ⟨by rw [hr.1]; exact (mkR_succ j _).symm, all_lt_succ.2 ⟨hr.2, h⟩⟩
      · rw [cdt (by omega), if_neg fun h2 => h (h2 i j hi hj)]
    · intro rc2 r hr
      unfold zz30_b7
      rw [cdf (by omega), zz30_a7, app1 (by rw [hv.1, mkR_len]; omega), Option.bind_some, wr1 (by omega)]
      refine ih _ ⟨?_, all_lt_succ.2 ⟨hv.2, hr.2⟩⟩
      rw [hv.1, hr.1]
      exact (mkR_succ i fun x => mkR n fun y => bnd n le [x, y]).symm
  · intro rc t hv
    unfold zz30_b3
    rw [cdf (by omega), zz30_a3, if_pos fun x y hx hy => hv.2 x hx y hy, hv.1]

theorem dual_eq {n : Nat} {le : Nat → Nat → Bool} (hn : n ≤ 1048576) : zz31 big (mkT n le) = some (mkT n (du le), ()) := by
  unfold zz31 zz31_s
  rw [mkR_len, newOrder_eq (by omega), Option.bind_some]
  refine zz31_h3 n (fun i d => d = mkT n fun a b => decide (a < i) && le b a) (by omega) ?_ ?_ 0 (by omega) _ (mkT_congr fun a b _ _ => by simp)
  · intro rc i d hi hv ih
    unfold zz31_b3
    rw [cdt (by omega), mkR_len]
    refine zz31_h6 n (fun j d => d = mkT n fun a b => (decide (a < i) || decide (a = i) && decide (b < j)) && le b a) (by omega) ?_ ?_ 0 (by omega) _ (by rw [hv]; exact mkT_congr fun a b _ _ => by simp)
    · intro rc2 j d2 hj hv2 ih2
      unfold zz31_b6
      generalize hf : (fun a b => (decide (a < i) || decide (a = i) && decide (b < j)) && le b a) = f at hv2
      simp only [cdt (show (j : Int) < (n : Int) by omega), hv2, atI_mkR hi, get_mkR hi, Option.bind_some, atI_mkR hj, get_mkR hj, Int.toNat_natCast, wr1 (show j ≤ 4611686018427387904 by omega)]
      refine ih2 _ ?_
      rw [mkT_set, ← hf]
      refine mkT_congr fun a b _ _ => ?_
      by_cases h1 : a = i
      · subst h1
        by_cases h2 : b = j
        · subst h2; simp
        · rw [if_neg fun h => h2 h.2, show decide (b < j + 1) = decide (b < j) from decide_eq_decide.2 (by omega)]
      · rw [if_neg fun h => h1 h.1]; simp [h1]
    · intro rc2 d2 hv2
      unfold zz31_b6
      rw [cdf (by omega), zz31_a6, wr1 (by omega)]
      refine ih _ ?_
      rw [hv2]
      refine mkT_congr fun a b _ hb => ?_
      congr 1
      rw [decide_eq_true hb, Bool.and_true, ← Bool.decide_or]
      exact decide_eq_decide.2 (by omega)
  · intro rc d hv
    unfold zz31_b3
    rw [cdf (by omega), zz31_a3, hv]
    congr 2
    exact mkT_congr fun a b ha _ => by simp [ha]

structure Lat (n : Nat) (le : Nat → Nat → Bool) : Prop where
  ne : 0 < n
  meet : ∀ x y, x < n → y < n → 0 ≤ bnd n le [x, y]
  join : ∀ x y, x < n → y < n → 0 ≤ bnd n (du le) [x, y]

def mt (n : Nat) (le : Nat → Nat → Bool) (x y : Nat) : Nat := (bnd n le [x, y]).toNat

def gb (n : Nat) (le : Nat → Nat → Bool) (S : List Nat) : Nat := (bnd n le S).toNat

def lat (n : Nat) (le : Nat → Nat → Bool) : List (List Bool) × List (List Int) × List (List Int) × Unit :=
  (mkT n le, mkT n (fun x y => ((mt n le x y : Nat) : Int)), mkT n (fun x y => ((mt n (du le) x y : Nat) : Int)), ())

structure LatP (n : Nat) (le : Nat → Nat → Bool) : Prop where
  le10 : n ≤ 10
  ord : Ord n le
  lat : Lat n le

theorem latticeOf_pos {n : Nat} {le : Nat → Nat → Bool} (h : LatP n le) : zz32 (pos n le) = some ((some (lat n le), true, ()), ()) := by
  have h10 := h.le10
  have h0 := h.lat.ne
  unfold zz32 zz32_s
  simp only [orderOf_pos h.le10 h.ord, Option.bind_some, Bool.not_true, cond_false, mkR_len, cdf (show ¬ ((n : Int) = 0) by omega), meetTable_eq (le := le) (show n ≤ 1048576 by omega), dual_eq (le := le) (show n ≤ 1048576 by omega), meetTable_eq (le := du le) (show n ≤ 1048576 by omega)]
  rw [if_pos h.lat.meet, if_pos h.lat.join]
  simp only [cond_true]
  have e1 : (mkT n fun x y => bnd n le [x, y]) = mkT n fun x y => ((mt n le x y : Nat) : Int) := mkT_congr fun x y hx hy => by
    have := h.lat.meet x y hx hy
    unfold mt; omega
  have e2 : (mkT n fun x y => bnd n (du le) [x, y]) = mkT n fun x y => ((mt n (du le) x y : Nat) : Int) := mkT_congr fun x y hx hy => by
    have := h.lat.join x y hx hy
    unfold mt; omega
  rw [e1, e2]
  rfl

theorem latticeOf_no {p : PT} (hx : ∀ r ∈ p.1, r.length ≤ 4294967296) (h : ¬ (Good p ∧ Lat p.1.length (leP p))) : ∃ l, zz32 p = some ((l, false, ()), ()) := by
  by_cases hg : Good p
  · have hf := hg.form
    have ho := hg.ord
    have h10 := hg.len
    replace h : ¬ Lat p.1.length (leP p) := fun hl => h ⟨hg, hl⟩
    generalize p.1.length = n at *
    generalize leP p = le at *
    subst hf
    unfold zz32 zz32_s
    simp only [orderOf_pos h10 ho, Option.bind_some, Bool.not_true, cond_false, mkR_len, meetTable_eq (le := le) (show n ≤ 1048576 by omega), dual_eq (le := le) (show n ≤ 1048576 by omega), meetTable_eq (le := du le) (show n ≤ 1048576 by omega)]
    by_cases h0 : n = 0
    · rw [cdt (by omega)]
      exact ⟨_, rfl⟩
    · rw [cdf (by omega)]
      by_cases h1 : ∀ x y, x < n → y < n → 0 ≤ bnd n le [x, y]
      · rw [if_pos h1]
        by_cases h2 : ∀ x y, x < n → y < n → 0 ≤ bnd n (du le) [x, y]
        · exact absurd ⟨by omega, h1, h2⟩ h
        · rw [if_neg h2]
          exact ⟨_, rfl⟩
      · rw [if_neg h1]
        exact ⟨_, rfl⟩
  · obtain ⟨T, hT⟩ := orderOf_no p hx hg
    unfold zz32 zz32_s
    rw [hT, Option.bind_some]
    exact ⟨_, rfl⟩

theorem specDual_pos {n : Nat} {le : Nat → Nat → Bool} (hn : n ≤ 1048576) : zz12 big (pos n le) = some (pos n (du le), ()) := by
  unfold zz12 zz12_s
  refine zz12_h3 n (fun i o => o.1 = mkR i fun y => cs (fl n fun x => le y x)) (by omega) ?_ ?_ 0 (by omega) _ rfl
  · intro rc i o hi hv ih
    unfold zz12_b3
    rw [pos_len, cdt (by omega)]
    refine zz12_h7 n (fun j l => l = cs (fl j fun x => le i x)) (by omega) ?_ ?_ 0 (by omega) _ rfl
    · intro rc2 j l hj hl ih2
      have hlen := fl_len j fun x => le i x
      unfold zz12_b7
      rw [pos_len, cdt (by omega), l23Leq_pos (by omega) hi hj, Option.bind_some, wr1 (by omega)]
      cases h : le i j with
      | true =>
        rw [cond_true, app1 (by rw [hl, cs_len]; omega), Option.bind_some]
        exact ih2 _ (by rw [hl]; exact fl_t (P := fun x => le i x) h)
      | false => exact ih2 _ (by rw [hl]; exact fl_f (P := fun x => le i x) h)
    · intro rc2 l hl
      unfold zz12_b7
      rw [pos_len, cdf (by omega), zz12_a7, app1 (by rw [hv, mkR_len]; omega), Option.bind_some, wr1 (by omega)]
      exact ih _ (by rw [hl]; show o.1 ++ _ = _; rw [hv]; exact (mkR_succ i fun y => cs (fl n fun x => le y x)).symm)
  · intro rc o hv
    unfold zz12_b3
    rw [pos_len, cdf (by omega), zz12_a3]
    unfold pos
    congr 2
    exact Prod.ext hv rfl

theorem specBound_pos {n : Nat} {le : Nat → Nat → Bool} (hn : n ≤ 1048576) {S : List Nat} (hS : ∀ s ∈ S, s < n) (hSl : S.length ≤ 4294967296) : zz13 big (pos n le) (cs S) = some (bnd n le S, ()) := by
  unfold zz13 zz13_s
  refine zz13_h3 n (fun i l => l = cs (fl i fun z => S.all fun s => le z s)) (by omega) ?_ ?_ 0 (by omega) _ rfl
  · intro rc i l hi hv ih
    have hlen := fl_len i fun z => S.all fun s => le z s
    unfold zz13_b3
    rw [pos_len, cdt (by omega)]
    refine zz13_h7 S.length (fun k b => b = (S.take k).all fun s => le i s) (by omega) ?_ ?_ 0 (by omega) _ rfl
    · intro rc2 k b hk hb ih2
      have hs := hS _ (List.getElem_mem hk)
      have ht := @all_take _ S k hk fun s => le i s
      have ha := atI_cs hk
      unfold zz13_b7
      rw [cs_len, cdt (by omega), ha, Option.bind_some, wr1 (by omega)]
      generalize S[k] = s at hs ht
      rw [l23Leq_pos (by omega) hi hs, Option.bind_some]
      cases b with
      | true => exact ih2 _ (by rw [ht, ← hb]; rfl)
      | false => exact ih2 _ (by rw [ht, ← hb]; rfl)
    · intro rc2 b hb
      rw [List.take_length] at hb
      unfold zz13_b7
      rw [cs_len, cdf (by omega), zz13_a7, wr1 (by omega)]
      cases b with
      | true =>
        rw [cond_true, app1 (by rw [hv, cs_len]; omega), Option.bind_some]
        exact ih _ (by rw [hv]; exact fl_t (P := fun z => S.all fun s => le z s) hb.symm)
      | false => exact ih _ (by rw [hv]; exact fl_f (P := fun z => S.all fun s => le z s) hb.symm)
  · intro rc l hv
    unfold zz13_b3
    rw [pos_len, cdf (by omega), zz13_a3]
    replace hv : l = cs (low n le S) := hv
    rw [hv]
    have hll := @low_len n le S
    unfold bnd
    have hlt := @low_lt n le S
    have hfl : low n le S = fl n fun z => S.all fun s => le z s := rfl
    have hw : ∀ x, x < n → zz9 big (cs (low n le S)) (cs (fl n fun a => le a x)) = some ((low n le S).all fun y => le y x, ()) := by
      intro x hx
      rw [hfl, within_fl (by omega), ← hfl]
      congr 2
      exact tv_eq (by rw [List.all_eq_true]; exact ⟨fun h y hy hp => h y (fl_mem.2 ⟨hy, hp⟩), fun h y hy => h y (fl_mem.1 hy).1 (fl_mem.1 hy).2⟩)
    generalize low n le S = L at *
    refine zz13_h13 L.length (fun i => ∀ x ∈ L.take i, ¬ (L.all fun y => le y x) = true) (by omega) ?_ ?_ 0 (by omega) (by simp)
    · intro rc2 i hi hv2 ih2
      have hx := hlt _ (List.getElem_mem hi)
      have hh := @find_hit _ L (fun x => L.all fun y => le y x) i hi hv2
      have hn2 := fun h => ih2 ((all_take_succ hi).2 ⟨hv2, h⟩)
      have ha := atI_cs hi
      have hg := get_cs hi
      unfold zz13_b13
      simp only [cs_len, cdt (show (i : Int) < (L.length : Int) by omega), ha, Option.bind_some, Int.toNat_natCast, hg, wr1 (show i ≤ 4611686018427387904 by omega)]
      generalize L[i] = x at hx hh hn2
      rw [atI_pos hx, Option.bind_some, hw x hx, Option.bind_some]
      cases h : L.all fun y => le y x with
      | true =>
        rw [cond_true]
        unfold grt
        rw [hh h]
      | false =>
        rw [cond_false]
        exact hn2 (by rw [h]; simp)
    · intro rc2 hv2
      rw [List.take_length] at hv2
      unfold zz13_b13
      rw [cs_len, cdf (by omega), zz13_a13]
      unfold grt
      rw [List.find?_eq_none.2 hv2]

theorem bnd_swap {n : Nat} {le : Nat → Nat → Bool} (x y : Nat) : bnd n le [x, y] = bnd n le [y, x] := by
  unfold bnd
  congr 1
  unfold low
  congr 1; funext z; simp [Bool.and_comm]

theorem Ord.du {n : Nat} {le : Nat → Nat → Bool} (h : Ord n le) : Ord n (du le) where
  refl := h.refl
  anti x y hx hy hxy h1 := by
    have h3 : le y x = true := h1
    show le x y = false
    by_cases h2 : le x y = true
    · rw [h.anti x y hx hy hxy h2] at h3; cases h3
    · simpa using h2
  trans x y z hx hy hz h1 h2 := h.trans z y x hz hy hx h2 h1

theorem bnd_self {n : Nat} {le : Nat → Nat → Bool} (ho : Ord n le) {x : Nat} (hx : x < n) : bnd n le [x, x] = (x : Int) :=
  bnd_of_glb ho ⟨hx, by simp [ho.refl x hx], fun z _ h => h x (by simp)⟩

theorem spec24_eq (p : PT) (hx : ∀ r ∈ p.1, r.length ≤ 4294967296) : zz14 big p = some (tv (Good p ∧ Lat p.1.length (leP p)), ()) := by
  unfold zz14 zz14_s
  rw [specPoset_eq p hx, Option.bind_some]
  by_cases hg : Good p
  · rw [tv_t hg]
    have e : (Good p ∧ Lat p.1.length (leP p)) ↔ Lat p.1.length (leP p) := ⟨fun h => h.2, fun h => ⟨hg, h⟩⟩
    rw [tv_congr e, Bool.not_true, cond_false]
    have hf := hg.form
    have ho := hg.ord
    have h10 := hg.len
    clear e hg hx
    generalize p.1.length = n at *
    generalize leP p = le at *
    subst hf
    by_cases h0 : n = 0
    · rw [cdt (by omega), tv_f fun h => by have := h.ne; omega]
    · rw [cdf (by omega), specDual_pos (by omega), Option.bind_some]
      have key : ∀ x y, x < n → y < n → (0 ≤ bnd n le [x, y] ↔ 0 ≤ bnd n le [y, x]) := fun x y _ _ => by rw [bnd_swap]
      refine zz14_h5 n (fun i => ∀ x, x < i → ∀ y, y < x → 0 ≤ bnd n le [x, y] ∧ 0 ≤ bnd n (du le) [x, y]) (by omega) ?_ ?_ 0 (by omega) (by intro x hx; omega)
      · intro rc i hi hv ih
        unfold zz14_b5
        rw [pos_len, cdt (by omega)]
        refine zz14_h8 i (fun j => ∀ y, y < j → 0 ≤ bnd n le [i, y] ∧ 0 ≤ bnd n (du le) [i, y]) (by omega) ?_ ?_ 0 (by omega) (by intro x hx; omega)
        · intro rc2 j hj hv2 ih2
          unfold zz14_b8
          have e : ([(i : Int), (j : Int)] : List Int) = cs [i, j] := rfl
          have hS : ∀ s ∈ [i, j], s < n := by intro s hs; simp at hs; omega
          rw [cdt (by omega), e, specBound_pos (by omega) hS (by simp), Option.bind_some, specBound_pos (le := du le) (by omega) hS (by simp), Option.bind_some]
          by_cases h1 : 0 ≤ bnd n le [i, j]
          · rw [cdf (by omega)]
            by_cases h2 : 0 ≤ bnd n (du le) [i, j]
            · rw [cdf (by omega), wr1 (by omega)]
              exact ih2 (all_lt_succ.2 ⟨hv2, h1, h2⟩)
            · rw [cdt (by omega), tv_f fun h => h2 (h.join i j hi (by omega))]
          · rw [cdt (by omega), tv_f fun h => h1 (h.meet i j hi (by omega))]
        · intro rc2 hv2
          unfold zz14_b8
          rw [cdf (by omega), zz14_a8, wr1 (by omega)]
          exact ih (all_lt_succ.2 ⟨hv, hv2⟩)
      · intro rc hv
        unfold zz14_b5
        rw [pos_len, cdf (by omega), zz14_a5, tv_t]
        refine ⟨by omega, fun x y hx hy => ?_, fun x y hx hy => ?_⟩
        · rcases Nat.lt_trichotomy x y with h | h | h
          · rw [bnd_swap]; exact (hv y hy x h).1
          · subst h; rw [bnd_self ho hx]; omega
          · exact (hv x hx y h).1
        · rcases Nat.lt_trichotomy x y with h | h | h
          · rw [bnd_swap]; exact (hv y hy x h).2
          · subst h; rw [bnd_self ho.du hx]; omega
          · exact (hv x hx y h).2
  · rw [tv_f hg, tv_f fun h => hg h.1]
    rfl

theorem lat_cases {p : PT} (hx : ∀ r ∈ p.1, r.length ≤ 4294967296) : (∃ n le, p = pos n le ∧ LatP n le ∧ zz14 big p = some (true, ()) ∧ zz32 p = some ((some (lat n le), true, ()), ())) ∨
    (zz14 big p = some (false, ()) ∧ ∃ l, zz32 p = some ((l, false, ()), ())) := by
  by_cases h : Good p ∧ Lat p.1.length (leP p)
  · have hl : LatP p.1.length (leP p) := ⟨h.1.len, h.1.ord, h.2⟩
    refine .inl ⟨p.1.length, leP p, h.1.form, hl, by rw [spec24_eq p hx, tv_t h], ?_⟩
    have := latticeOf_pos hl
    rw [← h.1.form] at this
    exact this
  · exact .inr ⟨by rw [spec24_eq p hx, tv_f h], latticeOf_no hx h⟩

theorem szIntS_eq (a : List Int) (l : Int) (h : a.length ≤ 9223372036854775807) (h0 : 0 ≤ l) (h1 : l ≤ 1048576) : ∃ v, zz0 a l = some (v, ()) ∧ v ≤ 1048576 ∧ (0 ≤ v → a.length ≤ 1048576) := by
  unfold zz0 zz0_s
  rw [wr (by omega) (by omega)]
  by_cases hl : l - (a.length : Int) < 0
  · rw [cdt hl]
    exact ⟨_, rfl, by omega, by omega⟩
  · rw [cdf hl]
    exact ⟨_, rfl, by omega, by omega⟩

theorem szIntSS_l (N : Nat) : ∀ (n : Nat) (a : List (List Int)) (l : Int) (i : Nat), a.length - i < n → i ≤ a.length → a.length ≤ 1048576 → 0 ≤ l → l ≤ 1048576 → (∀ x ∈ a, x.length ≤ 9223372036854775807) →
    ∃ v, zz1_l5 N zz1_a5 n a l i = some (v, ()) ∧ v ≤ 1048576 ∧ (0 ≤ v → ∀ x ∈ a.drop i, x.length ≤ 1048576)
  | 0, _, _, _, h, _, _, _, _, _ => by omega
  | n + 1, a, l, i, h, hi, hb, h0, h1, hx => by
    simp only [zz1_l5, zz1_b5]
    by_cases hlt : i < a.length
    · obtain ⟨v, hv, hv1, hv2⟩ := szIntS_eq _ l (hx _ (List.getElem_mem hlt)) h0 h1
      rw [cdt (by omega), atI_lt a i hlt, Option.bind_some, hv, Option.bind_some, wr1 (by omega)]
      by_cases hl : v < 0
      · rw [cdt hl]
        exact ⟨_, rfl, by omega, by omega⟩
      · rw [cdf hl]
        obtain ⟨w, hw, hw1, hw2⟩ := szIntSS_l N n a v (i + 1) (by omega) (by omega) hb (by omega) hv1 hx
        refine ⟨w, hw, hw1, fun h x hx' => ?_⟩
        rw [List.drop_eq_getElem_cons hlt] at hx'
        rcases List.mem_cons.1 hx' with rfl | hx'
        · exact hv2 (by omega)
        · exact hw2 h x hx'
    · rw [cdf (by omega), List.drop_eq_nil_of_le (by omega)]
      exact ⟨_, rfl, h1, by simp⟩

theorem szIntSS_eq (a : List (List Int)) (l : Int) (ha : a.length ≤ 9223372036854775807) (hx : ∀ x ∈ a, x.length ≤ 9223372036854775807) (h0 : 0 ≤ l) (h1 : l ≤ 1048576) : ∃ v, zz1 big a l = some (v, ()) ∧ v ≤ 1048576 ∧ (0 ≤ v → a.length ≤ 1048576 ∧ ∀ x ∈ a, x.length ≤ 1048576) := by
  have hb := big_ge
  unfold zz1 zz1_s
  rw [wr (by omega) (by omega)]
  by_cases h : l - (a.length : Int) < 0
  · rw [cdt h]
    exact ⟨_, rfl, by omega, by omega⟩
  · rw [cdf h]
    unfold zz1_F5
    obtain ⟨v, hv, hv1, hv2⟩ := szIntSS_l big big a (l - a.length) 0 (by omega) (by omega) (by omega) (by omega) (by omega) hx
    exact ⟨v, hv, hv1, fun h0 => ⟨by omega, by simpa using hv2 h0⟩⟩

def SmallP (p : PT) : Prop := p.1.length ≤ 1048576 ∧ ∀ r ∈ p.1, r.length ≤ 1048576

theorem szPoset_eq (p : PT) (l : Int) (hw : Wf (.pair (.sl (.sl I)) .unit) p) (h0 : 0 ≤ l) (h1 : l ≤ 1048576) : ∃ v, zz2 p l = some (v, ()) ∧ v ≤ 1048576 ∧ (0 ≤ v → SmallP p) := by
  simp only [Wf, maxLen] at hw
  obtain ⟨v, hv, hv1, hv2⟩ := szIntSS_eq p.1 l hw.1.1 (fun x hx => (hw.1.2 x hx).1) h0 h1
  unfold zz2 zz2_s
  rw [hv, Option.bind_some]
  by_cases h : v < 0
  · rw [cdt h]
    exact ⟨_, rfl, by omega, by omega⟩
  · rw [cdf h]
    exact ⟨_, rfl, hv1, hv2⟩

theorem toIntSS_eq (a : List (List Int)) (h : a.length ≤ 4294967296) (hx : ∀ x ∈ a, x.length ≤ 4294967296) : zz4 big a = some (a, ()) := by
  unfold zz4 zz4_s
  rw [mkI_nat _ _ h, Option.bind_some, Option.bind_some, cdt (by omega)]
  refine zz4_h3 a.length (fun i o => o.length = a.length ∧ o.take i = a.take i) (by omega) ?_ ?_ 0 (by omega) _ ⟨by simp, rfl⟩
  · intro rc i o hi hv ih
    have ho : i < o.length := by omega
    unfold zz4_b3
    rw [cdt (by omega), atI_lt a i hi, Option.bind_some, toIntS_eq _ (hx _ (List.getElem_mem hi)), Option.bind_some, atI_lt o i ho, Option.bind_some, Int.toNat_natCast, List.getElem?_eq_getElem ho, Option.bind_some, wr1 (by omega)]
    refine ih _ ⟨by rw [List.length_set]; exact hv.1, ?_⟩
    rw [List.take_succ_eq_append_getElem (by rw [List.length_set]; exact ho), List.take_succ_eq_append_getElem hi, List.getElem_set_self, List.take_set, List.set_eq_of_length_le (by rw [List.length_take]; omega), hv.2]
  · intro rc o hv
    unfold zz4_b3
    have h1 := hv.2
    rw [List.take_length, ← hv.1, List.take_length] at h1
    rw [cdf (by omega), zz4_a3, h1]

theorem toPoset_eq {p : PT} (h : SmallP p) : zz5 p = some (p, ()) := by
  unfold zz5 zz5_s
  have := h.1
  rw [toIntSS_eq p.1 (by omega) fun x hx => by have := h.2 x hx; omega]
  rfl

theorem eqPoset_eq {p q : PT} (h : SmallP p) : zz42 p q = some (decide (p = q), ()) := by
  unfold zz42 zz42_s
  have := h.1
  rw [eqIntSS_eq p.1 q.1 (by omega) fun x hx => by have := h.2 x hx; omega]
  rw [Option.bind_some]
  by_cases e : p = q
  · subst e; simp
  · rw [decide_eq_false e, decide_eq_false fun h => e (Prod.ext h rfl)]; rfl

theorem SmallP.rows {p : PT} (h : SmallP p) : ∀ r ∈ p.1, r.length ≤ 4294967296 := fun r hr => by have := h.2 r hr; omega

theorem LatP.du {n : Nat} {le : Nat → Nat → Bool} (h : LatP n le) : LatP n (du le) := ⟨h.le10, Ord.du h.ord, h.lat.ne, h.lat.join, h.lat.meet⟩

theorem LatP.glb {n : Nat} {le : Nat → Nat → Bool} (h : LatP n le) {x y : Nat} (hx : x < n) (hy : y < n) : IsGlb n le [x, y] (mt n le x y) := glb_of_bnd (h.lat.meet x y hx hy)

theorem LatP.bnd2 {n : Nat} {le : Nat → Nat → Bool} (h : LatP n le) {x y : Nat} (hx : x < n) (hy : y < n) : bnd n le [x, y] = ((mt n le x y : Nat) : Int) := by
  have := h.lat.meet x y hx hy
  unfold mt; omega

theorem LatP.mlt {n : Nat} {le : Nat → Nat → Bool} (h : LatP n le) {x y : Nat} (hx : x < n) (hy : y < n) : mt n le x y < n := (h.glb hx hy).lt

theorem LatP.m1 {n : Nat} {le : Nat → Nat → Bool} (h : LatP n le) {x y : Nat} (hx : x < n) (hy : y < n) : le (mt n le x y) x = true := (h.glb hx hy).lo x (by simp)

theorem LatP.m2 {n : Nat} {le : Nat → Nat → Bool} (h : LatP n le) {x y : Nat} (hx : x < n) (hy : y < n) : le (mt n le x y) y = true := (h.glb hx hy).lo y (by simp)

theorem LatP.mg {n : Nat} {le : Nat → Nat → Bool} (h : LatP n le) {x y z : Nat} (hx : x < n) (hy : y < n) (hz : z < n) (h1 : le z x = true) (h2 : le z y = true) : le z (mt n le x y) = true :=
  (h.glb hx hy).gr z hz (by simp [h1, h2])

theorem LatP.tr {n : Nat} {le : Nat → Nat → Bool} (h : LatP n le) {x y z : Nat} (hx : x < n) (hy : y < n) (hz : z < n) (h1 : le x y = true) (h2 : le y z = true) : le x z = true := h.ord.trans x y z hx hy hz h1 h2

theorem mt_comm {n : Nat} {le : Nat → Nat → Bool} (x y : Nat) : mt n le x y = mt n le y x := by unfold mt; rw [bnd_swap]

theorem topEx {n : Nat} {le : Nat → Nat → Bool} (h : LatP n le) : ∃ t, IsGlb n le [] t := by
  have key : ∀ i, i ≤ n → ∃ t, t < n ∧ ∀ x, x < i → le x t = true := by
    intro i
    induction i with
    | zero => exact fun _ => ⟨0, h.lat.ne, by intro x hx; omega⟩
    | succ i ih =>
      intro hi
      obtain ⟨t, ht, h1⟩ := ih (by omega)
      have hin : i < n := by omega
      refine ⟨mt n (Ytcgoaplbnjcboaa.du le) t i, h.du.mlt ht hin, all_lt_succ.2 ⟨fun x hx => ?_, h.du.m2 ht hin⟩⟩
      exact h.tr (by omega) ht (h.du.mlt ht hin) (h1 x hx) (h.du.m1 ht hin)
  obtain ⟨t, ht, h1⟩ := key n (by omega)
  exact ⟨t, ht, by simp, fun z hz _ => h1 z hz⟩

theorem glbEx {n : Nat} {le : Nat → Nat → Bool} (h : LatP n le) : ∀ S : List Nat, (∀ s ∈ S, s < n) → ∃ m, IsGlb n le S m
  | [], _ => topEx h
  | s :: S, hS => by
    obtain ⟨m, hm⟩ := glbEx h S fun x hx => hS x (by simp [hx])
    have hs := hS s (by simp)
    refine ⟨mt n le s m, h.mlt hs hm.lt, fun x hx => ?_, fun z hz hx => ?_⟩
    · rcases List.mem_cons.1 hx with rfl | hx'
      · exact h.m1 hs hm.lt
      · exact h.tr (h.mlt hs hm.lt) hm.lt (hS x hx) (h.m2 hs hm.lt) (hm.lo x hx')
    · exact h.mg hs hm.lt hz (hx s (by simp)) (hm.gr z hz fun x hx' => hx x (by simp [hx']))

theorem LatP.gbs {n : Nat} {le : Nat → Nat → Bool} (h : LatP n le) {S : List Nat} (hS : ∀ s ∈ S, s < n) : IsGlb n le S (gb n le S) := by
  obtain ⟨m, hm⟩ := glbEx h S hS
  unfold gb
  rw [bnd_of_glb h.ord hm]
  exact hm

theorem noneLt {n : Nat} : ∀ s ∈ ([] : List Nat), s < n := fun s hs => by cases hs

theorem lat1 (n : Nat) (le : Nat → Nat → Bool) : (lat n le).1 = mkT n le := rfl

theorem lat2 (n : Nat) (le : Nat → Nat → Bool) : (lat n le).2.1 = mkT n fun x y => ((mt n le x y : Nat) : Int) := rfl

theorem lat3 (n : Nat) (le : Nat → Nat → Bool) : (lat n le).2.2.1 = mkT n fun x y => ((mt n (du le) x y : Nat) : Int) := rfl

theorem l24Meet_eq {n : Nat} {le : Nat → Nat → Bool} (h : LatP n le) {x y : Nat} (hx : x < n) (hy : y < n) : zz16 (pos n le) (x : Int) (y : Int) = some (((mt n le x y : Nat) : Int), ()) := by
  have := h.le10
  unfold zz16 zz16_s
  rw [show ([(x : Int), (y : Int)] : List Int) = cs [x, y] from rfl, specBound_pos (by omega) (by simp [hx, hy]) (by simp), Option.bind_some, h.bnd2 hx hy]

theorem l24Join_eq {n : Nat} {le : Nat → Nat → Bool} (h : LatP n le) {x y : Nat} (hx : x < n) (hy : y < n) : zz17 (pos n le) (x : Int) (y : Int) = some (((mt n (du le) x y : Nat) : Int), ()) := by
  have := h.le10
  unfold zz17 zz17_s
  rw [specDual_pos (by omega), Option.bind_some, show ([(x : Int), (y : Int)] : List Int) = cs [x, y] from rfl, specBound_pos (by omega) (by simp [hx, hy]) (by simp), Option.bind_some, h.du.bnd2 hx hy]

theorem markIntSS_ok (a : List (List Int)) (k : Int) (h : a.length ≤ 1048576) (hx : ∀ x ∈ a, x.length ≤ 1048576) (hk : 0 ≤ k) (hk2 : k ≤ 9000000000000) : ∃ v j, zz44 big a k = some (j, (v, ())) ∧ 0 ≤ j ∧ j ≤ k + 1048576 * 1048576 := by
  unfold zz44 zz44_s
  suffices H : ∀ (n : Nat) (b : List (List Int)) (i : Nat) (k2 : Int), b.length = a.length → (∀ x ∈ b.drop i, x.length ≤ 1048576) → i ≤ a.length → a.length - i < n → 0 ≤ k2 → k2 ≤ k + i * 1048576 → ∃ v j, zz44_l2 big zz44_a2 n b k2 i = some (j, (v, ())) ∧ 0 ≤ j ∧ j ≤ k + 1048576 * 1048576 from by
    have := big_ge
    exact H big a 0 k rfl (by simpa using hx) (by omega) (by omega) hk (by omega)
  intro n
  induction n with
  | zero => intro b i k2 _ _ _ hn; omega
  | succ n ih =>
    intro b i k2 hbl hb hi hn hk0 hk3
    simp only [zz44_l2, zz44_b2]
    by_cases hlt : i < a.length
    · have hlb : i < b.length := by omega
      have hbi : b[i].length ≤ 1048576 := hb _ (by rw [List.drop_eq_getElem_cons hlb]; exact List.mem_cons_self)
      rw [cdt (by omega), atI_lt b i hlb, Option.bind_some, Int.toNat_natCast, List.getElem?_eq_getElem hlb, Option.bind_some, Option.bind_some, markIntS_eq2 _ k2 (by omega) hk0 (by omega), Option.bind_some, Option.bind_some, Option.bind_some, wr1 (by omega)]
      refine ih _ (i + 1) _ (by rw [List.length_set]; exact hbl) ?_ (by omega) (by omega) (by omega) (by omega)
      rw [List.drop_set, if_pos (by omega)]
      intro x hx'
      exact hb x (by rw [List.drop_eq_getElem_cons hlb]; exact List.mem_cons_of_mem _ hx')
    · rw [cdf (by omega)]
      exact ⟨b, k2, rfl, hk0, by omega⟩

abbrev bt (n : Nat) (le : Nat → Nat → Bool) : Nat := gb n (du le) []

theorem bt_lt {n : Nat} {le : Nat → Nat → Bool} (h : LatP n le) : bt n le < n := (h.du.gbs noneLt).lt

theorem getD_get {S : List Nat} {k : Nat} (h : k < S.length) : S.getD k 0 = S[k] := by rw [List.getD_eq_getElem?_getD, List.getElem?_eq_getElem h]; rfl

theorem hasNot_eq (l : List Int) (x : Int) (h : l.length ≤ 4294967296) : zz34 big l x = some (decide (x ∉ l), ()) := by
  unfold zz34 zz34_s
  refine zz34_h2 l.length (fun i => ∀ y ∈ l.take i, x ≠ y) (by omega) ?_ ?_ 0 (by omega) (by simp)
  · intro rc i hi hv ih
    unfold zz34_b2
    rw [cdt (by omega), atI_lt l i hi, Option.bind_some, wr1 (by omega)]
    by_cases e : x = l[i]
    · rw [cdt e]
      have : x ∈ l := by rw [e]; exact List.getElem_mem hi
      simp [this]
    · rw [cdf e]
      exact ih ((all_take_succ hi (P := fun y => x ≠ y)).2 ⟨hv, e⟩)
  · intro rc hv
    rw [List.take_length] at hv
    unfold zz34_b2
    have : x ∉ l := fun hx => hv x hx rfl
    rw [cdf (by omega), zz34_a2]
    simp [this]

theorem atI_csD {S : List Nat} {i : Nat} (h : i < S.length) : atI (cs S) (i : Int) = some ((S.getD i 0 : Nat) : Int) := by rw [atI_cs h, getD_get h]

theorem markPoset_ok2 {p : PT} (h : SmallP p) (k : Int) (hk : 0 ≤ k) (hk2 : k ≤ 5000000000000) : ∃ v j, zz45 p k = some (j, (v, ())) ∧ 0 ≤ j ∧ j ≤ k + 1048576 * 1048576 := by
  obtain ⟨v, j, h1, h2, h3⟩ := markIntSS_ok p.1 k h.1 h.2 hk (by omega)
  unfold zz45
  rw [h1]
  exact ⟨_, _, rfl, h2, by omega⟩

structure Pt (n : Nat) (P : Nat → Nat) : Prop where
  lo : ∀ x, x < n → P x ≤ x
  id : ∀ x, x < n → P (P x) = P x

theorem Pt.lt {n : Nat} {P : Nat → Nat} (h : Pt n P) {x : Nat} (hx : x < n) : P x < n := Nat.lt_of_le_of_lt (h.lo x hx) hx

def Lep (n : Nat) (P C : Nat → Nat) : Prop := ∀ x, x < n → C (P x) = C x

theorem Lep.refl {n : Nat} {P : Nat → Nat} (h : Pt n P) : Lep n P P := h.id

theorem Lep.trans {n : Nat} {P Q C : Nat → Nat} (h : Pt n P) (h1 : Lep n P Q) (h2 : Lep n Q C) : Lep n P C := fun x hx => by
  have e1 := h1 x hx
  have e2 := h2 (P x) (h.lt hx)
  have e3 := h2 x hx
  rw [← e2, e1, e3]

theorem lat_pos {n : Nat} {le : Nat → Nat → Bool} (h : LatP n le) : 0 < n := Nat.lt_of_le_of_lt (Nat.zero_le _) (bt_lt h)

inductive Wd where
  | v (n : Int)
  | op (g : Int) (a b : Wd)

def Wd.fl : Wd → List Int
  | .v n => [n]
  | .op g a b => g :: (a.fl ++ b.fl)

def Wd.ok : Wd → Prop
  | .v n => 0 ≤ n ∧ n < 5
  | .op g a b => (g = -1 ∨ g = -2) ∧ a.ok ∧ b.ok

theorem Wd.pos : ∀ A : Wd, 0 < A.fl.length
  | .v n => by simp [Wd.fl]
  | .op g a b => by simp [Wd.fl]

def At (s : List Int) (i : Nat) (A : Wd) : Prop := A.ok ∧ ∃ r, s.drop i = A.fl ++ r

theorem At.lt {s : List Int} {i : Nat} {A : Wd} (h : At s i A) : i + A.fl.length ≤ s.length := by
  obtain ⟨_, r, e⟩ := h
  have := congrArg List.length e
  have := A.pos
  simp only [List.length_drop, List.length_append] at *
  omega

def sAg (n m : Nat) (lp lq : Nat → Nat → Bool) (S : List Nat) (y z : Nat) : Prop :=
  (mt m lq y z < S.length → mt n lp (S.getD y 0) (S.getD z 0) = S.getD (mt m lq y z) 0) ∧ (mt m (du lq) y z < S.length → mt n (du lp) (S.getD y 0) (S.getD z 0) = S.getD (mt m (du lq) y z) 0)

def sAgr (n m : Nat) (lp lq : Nat → Nat → Bool) (S : List Nat) : Prop := ∀ y z, y < S.length → z < S.length → sAg n m lp lq S y z

theorem sAg_comm {n m : Nat} {lp lq : Nat → Nat → Bool} {S : List Nat} {y z : Nat} (h : sAg n m lp lq S y z) : sAg n m lp lq S z y := by
  unfold sAg at *
  rw [mt_comm (n := m) (le := lq) z y, mt_comm (n := m) (le := du lq) z y, mt_comm (n := n) (le := lp) (S.getD z 0), mt_comm (n := n) (le := du lp) (S.getD z 0)]
  exact h

theorem sD_lt {n : Nat} {S : List Nat} (hS : ∀ x ∈ S, x < n) {y : Nat} (hy : y < S.length) : S.getD y 0 < n := by
  rw [getD_get hy]
  exact hS _ (List.getElem_mem hy)

theorem specAgr_eq {n m : Nat} {lp lq : Nat → Nat → Bool} (h : LatP n lp) (h' : LatP m lq) {S : List Nat} (hS : ∀ x ∈ S, x < n) (h0 : 0 < S.length) (hl : S.length ≤ m) : zz18 big (pos n lp) (pos m lq) (cs S) = some (tv (sAgr n m lp lq S), ()) := by
  have h10 := h'.le10
  unfold zz18 zz18_s
  have el : IntKind.i64.wrap (((cs S).length : Int) - 1) = ((S.length - 1 : Nat) : Int) := by rw [cs_len, wr (by omega) (by omega)]; omega
  rw [el]
  refine zz18_h3 S.length (fun i => ∀ y z, y < i → z ≤ y → sAg n m lp lq S y z) (by omega) ?_ ?_ 0 (by omega) (fun y z hy => by omega)
  · intro rc i hi hv ih
    unfold zz18_b3
    rw [cs_len, cdt (by omega)]
    refine zz18_h6 (i + 1) (fun j => ∀ z, z < j → sAg n m lp lq S i z) (by omega) ?_ ?_ 0 (by omega) (fun z hz => by omega)
    · intro rc2 j hj hv2 ih2
      have hjS : j < S.length := by omega
      have hmm := h'.mlt (show i < m by omega) (show j < m by omega)
      have hjj := h'.du.mlt (show i < m by omega) (show j < m by omega)
      have bad : ¬ sAg n m lp lq S i j → tv (sAgr n m lp lq S) = false := fun hb => tv_f fun H => hb (H i j hi hjS)
      unfold zz18_b6
      simp only [cdt (show (j : Int) ≤ (i : Int) by omega), l24Meet_eq h' (show i < m by omega) (show j < m by omega), l24Join_eq h' (show i < m by omega) (show j < m by omega), Option.bind_some, atI_csD hi, atI_csD hjS, l24Meet_eq h (sD_lt hS hi) (sD_lt hS hjS), l24Join_eq h (sD_lt hS hi) (sD_lt hS hjS), wr1 (show j ≤ 4611686018427387904 by omega)]
      have next : sAg n m lp lq S i j → rc2 (cs S) (pos n lp) (pos m lq) ((S.length - 1 : Nat) : Int) (i : Int) ((j + 1 : Nat) : Int) = some (tv (sAgr n m lp lq S), ()) := fun hg => ih2 fun z hz => by
        by_cases e : z = j
        · subst e; exact hg
        · exact hv2 z (by omega)
      have join : (mt m lq i j < S.length → mt n lp (S.getD i 0) (S.getD j 0) = S.getD (mt m lq i j) 0) → (cond (decide (((mt m (du lq) i j : Nat) : Int) ≤ ((S.length - 1 : Nat) : Int)))
          ((atI (cs S) ((mt m (du lq) i j : Nat) : Int)).bind fun xq14 => cond (decide (((mt n (du lp) (S.getD i 0) (S.getD j 0) : Nat) : Int) ≠ xq14)) (some (false, (())))
            (rc2 (cs S) (pos n lp) (pos m lq) ((S.length - 1 : Nat) : Int) (i : Int) ((j + 1 : Nat) : Int)))
          (rc2 (cs S) (pos n lp) (pos m lq) ((S.length - 1 : Nat) : Int) (i : Int) ((j + 1 : Nat) : Int))) = some (tv (sAgr n m lp lq S), ()) := by
        intro hm
        by_cases c2 : mt m (du lq) i j < S.length
        · rw [cdt (by omega), atI_csD c2, Option.bind_some]
          by_cases e2 : mt n (du lp) (S.getD i 0) (S.getD j 0) = S.getD (mt m (du lq) i j) 0
          · rw [cdf (by omega)]
            exact next ⟨hm, fun _ => e2⟩
          · rw [cdt (by omega), bad fun H => e2 (H.2 c2)]
        · rw [cdf (by omega)]
          exact next ⟨hm, fun c => absurd c c2⟩
      by_cases c1 : mt m lq i j < S.length
      · rw [cdt (by omega), atI_csD c1, Option.bind_some]
        by_cases e1 : mt n lp (S.getD i 0) (S.getD j 0) = S.getD (mt m lq i j) 0
        · rw [cdf (by omega)]
          exact join fun _ => e1
        · rw [cdt (by omega), bad fun H => e1 (H.1 c1)]
      · rw [cdf (by omega)]
        exact join fun c => absurd c c1
    · intro rc2 hv2
      unfold zz18_b6
      rw [cdf (by omega), zz18_a6, wr1 (by omega)]
      refine ih fun y z hy hz => ?_
      by_cases e : y = i
      · subst e; exact hv2 z (by omega)
      · exact hv y z (by omega) hz
  · intro rc hv
    unfold zz18_b3
    rw [cs_len, cdf (by omega), zz18_a3, tv_t]
    intro y z hy hz
    rcases Nat.le_total z y with c | c
    · exact hv y z hy c
    · exact sAg_comm (hv z y hz c)

theorem implAgr_eq {n m : Nat} {lp lq : Nat → Nat → Bool} (h : LatP n lp) (h' : LatP m lq) {S : List Nat} (hS : ∀ x ∈ S, x < n) (hl : S.length ≤ m) : zz36 big (some (lat n lp)) (some (lat m lq)) (cs S) = some (tv (sAgr n m lp lq S), ()) := by
  have h10 := h'.le10
  unfold zz36 zz36_s
  rw [cs_len]
  refine zz36_h2 S.length (fun i => ∀ y z, y < i → z < S.length → sAg n m lp lq S y z) (by omega) ?_ ?_ 0 (by omega) (fun y z hy => by omega)
  · intro rc i hi hv ih
    unfold zz36_b2
    rw [cs_len, cdt (by omega)]
    refine zz36_h5 S.length (fun j => ∀ z, z < j → sAg n m lp lq S i z) (by omega) ?_ ?_ 0 (by omega) (fun z hz => by omega)
    · intro rc2 j hj hv2 ih2
      have him : i < m := by omega
      have hjm : j < m := by omega
      have hiS := sD_lt hS hi
      have hjS := sD_lt hS hj
      have bad : ¬ sAg n m lp lq S i j → tv (sAgr n m lp lq S) = false := fun hb => tv_f fun H => hb (H i j hi hj)
      unfold zz36_b5
      simp only [cdt (show (j : Int) < (S.length : Int) by omega), Option.bind_some, lat2, lat3, atI_mkR him, atI_mkR hjm, cs_len, atI_csD hi, atI_csD hj, atI_mkR hiS, atI_mkR hjS, wr1 (show j ≤ 4611686018427387904 by omega)]
      have next : sAg n m lp lq S i j → rc2 (some (lat n lp)) (some (lat m lq)) (cs S) (i : Int) (S.length : Int) (i : Int) (S.length : Int) ((j + 1 : Nat) : Int) = some (tv (sAgr n m lp lq S), ()) := fun hg => ih2 fun z hz => by
        by_cases e : z = j
        · subst e; exact hg
        · exact hv2 z (by omega)
      have join : (mt m lq i j < S.length → mt n lp (S.getD i 0) (S.getD j 0) = S.getD (mt m lq i j) 0) → (cond (decide (((mt m (du lq) i j : Nat) : Int) < (S.length : Int)))
          ((atI (cs S) ((mt m (du lq) i j : Nat) : Int)).bind fun xq14 => cond (decide (((mt n (du lp) (S.getD i 0) (S.getD j 0) : Nat) : Int) ≠ xq14)) (some (false, (())))
            (rc2 (some (lat n lp)) (some (lat m lq)) (cs S) (i : Int) (S.length : Int) (i : Int) (S.length : Int) ((j + 1 : Nat) : Int)))
          (rc2 (some (lat n lp)) (some (lat m lq)) (cs S) (i : Int) (S.length : Int) (i : Int) (S.length : Int) ((j + 1 : Nat) : Int))) = some (tv (sAgr n m lp lq S), ()) := by
        intro hm
        by_cases c2 : mt m (du lq) i j < S.length
        · rw [cdt (by omega), atI_csD c2, Option.bind_some]
          by_cases e2 : mt n (du lp) (S.getD i 0) (S.getD j 0) = S.getD (mt m (du lq) i j) 0
          · rw [cdf (by omega)]
            exact next ⟨hm, fun _ => e2⟩
          · rw [cdt (by omega), bad fun H => e2 (H.2 c2)]
        · rw [cdf (by omega)]
          exact next ⟨hm, fun c => absurd c c2⟩
      by_cases c1 : mt m lq i j < S.length
      · rw [cdt (by omega), atI_csD c1, Option.bind_some]
        by_cases e1 : mt n lp (S.getD i 0) (S.getD j 0) = S.getD (mt m lq i j) 0
        · rw [cdf (by omega)]
          exact join fun _ => e1
        · rw [cdt (by omega), bad fun H => e1 (H.1 c1)]
      · rw [cdf (by omega)]
        exact join fun c => absurd c c1
    · intro rc2 hv2
      unfold zz36_b5
      rw [cdf (by omega), zz36_a5, wr1 (by omega)]
      refine ih fun y z hy hz => ?_
      by_cases e : y = i
      · subst e; exact hv2 z hz
      · exact hv y z (by omega) hz
  · intro rc hv
    unfold zz36_b2
    rw [cdf (by omega), zz36_a2, tv_t]
    exact fun y z hy hz => hv y z hy hz

theorem first_at {α : Type} {n i : Nat} {g : Nat → Option α} {T : α} (hi : i < n) (h : ∀ x, x < i → g x = none) (hg : g i = some T) : (List.range n).findSome? g = some T := by
  rw [List.findSome?_eq_some_iff]
  refine ⟨List.range i, i, (List.range n).drop (i + 1), ?_, hg, fun x hx => h x (List.mem_range.1 hx)⟩
  have e : (List.range n).take i = List.range i := by
    apply List.ext_getElem
    · simp; omega
    · intro k h1 h2; simp
  have e2 := List.take_append_drop i (List.range n)
  rw [e, List.drop_eq_getElem_cons (by simpa using hi)] at e2
  simpa using e2.symm

theorem first_none {α : Type} {n : Nat} {g : Nat → Option α} (h : ∀ x, x < n → g x = none) : (List.range n).findSome? g = none := by
  rw [List.findSome?_eq_none_iff]
  exact fun x hx => h x (List.mem_range.1 hx)

noncomputable def sub (n m : Nat) (lp lq : Nat → Nat → Bool) : Nat → List Nat → Option (List Nat)
  | 0, S => some S
  | k + 1, S => (List.range n).findSome? fun x => if x ∈ S then none else bif tv (sAgr n m lp lq (S ++ [x])) then sub n m lp lq k (S ++ [x]) else none

theorem sub_len {n m : Nat} {lp lq : Nat → Nat → Bool} : ∀ {k : Nat} {S T : List Nat}, sub n m lp lq k S = some T → T.length = S.length + k
  | 0, S, T, h => by
    simp only [sub, Option.some.injEq] at h
    rw [← h]; rfl
  | k + 1, S, T, h => by
    simp only [sub] at h
    obtain ⟨x, _, h⟩ := List.exists_of_findSome?_eq_some h
    split at h
    · cases h
    · cases hb : tv (sAgr n m lp lq (S ++ [x])) with
      | false => rw [hb] at h; cases h
      | true =>
        rw [hb] at h
        have := sub_len h
        simp only [List.length_append, List.length_cons, List.length_nil] at this
        omega

def sOut (r : Option (List Nat)) : List Int × Bool × Unit := match r with
  | none => ([], false, ())
  | some T => (cs T, true, ())

theorem find_eq {n m : Nat} {lp lq : Nat → Nat → Bool} (h : LatP n lp) (h' : LatP m lq) : ∀ (k : Nat) (S : List Nat), (∀ x ∈ S, x < n) → S.length + k = m → ∀ d, k < d →
    R_zz19 d (pos n lp, pos m lq, cs S, ()) = some (sOut (sub n m lp lq k S), ()) ∧ R_zz37 d (some (lat n lp), some (lat m lq), cs S, ()) = some ((sub n m lp lq k S).map cs, ((), ()))
  | k, S, hS, hk, 0, hd => by omega
  | 0, S, hS, hk, d + 1, hd => by
    have h0 := lat_pos h'
    have hk : S.length = m := by omega
    constructor
    · show zz19 _ big (pos n lp) (pos m lq) (cs S) = _
      unfold zz19 zz19_s
      rw [pos_len, cs_len, cdt (by omega)]
      rfl
    · show zz37 _ big (some (lat n lp)) (some (lat m lq)) (cs S) = _
      unfold zz37 zz37_s
      rw [Option.bind_some, lat1, mkR_len, cs_len, cdt (by omega)]
      cases S with
      | nil => simp at hk; omega
      | cons x S => rfl
  | k + 1, S, hS, hk, d + 1, hd => by
    have h10 := h.le10
    have h10' := h'.le10
    have key : ∀ x, x < n → zz34 big (cs S) (x : Int) = some (decide (x ∉ S), ()) := fun x _ => by
      rw [hasNot_eq _ _ (by rw [cs_len]; omega)]
      congr 2
      exact decide_eq_decide.2 (not_congr cs_mem)
    have hsnoc : ∀ x : Nat, cs S ++ [(x : Int)] = cs (S ++ [x]) := fun x => by rw [cs_append]; rfl
    have hS2 : ∀ x : Nat, x < n → ∀ y ∈ S ++ [x], y < n := by
      intro x hx y hy
      rcases List.mem_append.1 hy with hy | hy
      · exact hS y hy
      · rw [List.mem_singleton] at hy; omega
    have hl2 : ∀ x : Nat, (S ++ [x]).length = S.length + 1 := fun x => by simp
    have ih : ∀ x, x < n → _ := fun x hx => find_eq h h' k (S ++ [x]) (hS2 x hx) (by rw [hl2]; omega) d (by omega)
    constructor
    · show zz19 _ big (pos n lp) (pos m lq) (cs S) = _
      unfold zz19 zz19_s
      rw [pos_len, cs_len, cdf (by omega)]
      refine zz19_h4 _ n (fun i => ∀ x, x < i → (if x ∈ S then none else bif tv (sAgr n m lp lq (S ++ [x])) then sub n m lp lq k (S ++ [x]) else none) = none) (by omega) ?_ ?_ 0 (by omega) (fun x hx => by omega)
      · intro rc i hi hv ih2
        have next : (if i ∈ S then none else bif tv (sAgr n m lp lq (S ++ [i])) then sub n m lp lq k (S ++ [i]) else none) = none → rc (cs S) (pos n lp) (pos m lq) ((i + 1 : Nat) : Int) = some (sOut (sub n m lp lq (k + 1) S), ()) := fun hg => ih2 fun x hx => by
          by_cases e : x = i
          · subst e; exact hg
          · exact hv x (by omega)
        have own : zz15 (cs S) = some (cs S, ()) := l1Own_eq _ (by rw [cs_len]; omega)
        unfold zz19_b4
        rw [pos_len, cdt (by omega), own, Option.bind_some, app1 (by rw [cs_len]; omega), Option.bind_some, l1Has_cs _ _ (by omega), Option.bind_some, hsnoc, wr1 (by omega)]
        by_cases hin : i ∈ S
        · rw [decide_eq_true hin, cond_true]
          exact next (by rw [if_pos hin])
        · rw [decide_eq_false hin, cond_false, specAgr_eq h h' (hS2 i hi) (by rw [hl2]; omega) (by rw [hl2]; omega), Option.bind_some]
          rw [if_neg hin] at next
          cases hb : tv (sAgr n m lp lq (S ++ [i])) with
          | false => exact next (by rw [hb]; rfl)
          | true =>
            rw [hb] at next
            rw [Bool.not_true, cond_false, (ih i hi).1, Option.bind_some]
            cases hr : sub n m lp lq k (S ++ [i]) with
            | none => exact next hr
            | some T =>
              have e : sub n m lp lq (k + 1) S = some T := first_at hi hv (by rw [if_neg hin, hb]; exact hr)
              rw [e]
              rfl
      · intro rc hv
        have e : sub n m lp lq (k + 1) S = none := first_none hv
        unfold zz19_b4
        rw [pos_len, cdf (by omega), zz19_a4, e]
        rfl
    · show zz37 _ big (some (lat n lp)) (some (lat m lq)) (cs S) = _
      unfold zz37 zz37_s
      rw [Option.bind_some, lat1, mkR_len, cs_len, cdf (by omega), Option.bind_some, lat1, mkR_len]
      refine zz37_h4 _ n (fun i => ∀ x, x < i → (if x ∈ S then none else bif tv (sAgr n m lp lq (S ++ [x])) then sub n m lp lq k (S ++ [x]) else none) = none) (by omega) ?_ ?_ 0 (by omega) (fun x hx => by omega)
      · intro rc i hi hv ih2
        have next : (if i ∈ S then none else bif tv (sAgr n m lp lq (S ++ [i])) then sub n m lp lq k (S ++ [i]) else none) = none → rc (some (lat n lp)) (some (lat m lq)) (cs S) (n : Int) ((i + 1 : Nat) : Int) = some ((sub n m lp lq (k + 1) S).map cs, ((), ())) := fun hg => ih2 fun x hx => by
          by_cases e : x = i
          · subst e; exact hg
          · exact hv x (by omega)
        unfold zz37_b4
        rw [cdt (by omega), key i hi, Option.bind_some, wr1 (by omega)]
        by_cases hin : i ∈ S
        · rw [decide_eq_false (fun c => c hin), Bool.not_false, cond_true]
          exact next (by rw [if_pos hin])
        · rw [decide_eq_true hin, Bool.not_true, cond_false, clone_eq _ (by rw [cs_len]; omega), Option.bind_some, app1 (by rw [cs_len]; omega), Option.bind_some, hsnoc, implAgr_eq h h' (hS2 i hi) (by rw [hl2]; omega), Option.bind_some]
          rw [if_neg hin] at next
          cases hb : tv (sAgr n m lp lq (S ++ [i])) with
          | false => exact next (by rw [hb]; rfl)
          | true =>
            rw [hb] at next
            rw [Bool.not_true, cond_false, (ih i hi).2, Option.bind_some]
            cases hr : sub n m lp lq k (S ++ [i]) with
            | none => exact next hr
            | some T =>
              have e : sub n m lp lq (k + 1) S = some T := first_at hi hv (by rw [if_neg hin, hb]; exact hr)
              rw [e]
              rfl
      · intro rc hv
        have e : sub n m lp lq (k + 1) S = none := first_none hv
        unfold zz37_b4
        rw [cdf (by omega), zz37_a4, e]
        rfl

theorem findSub_eq (p q : PT) (hx : ∀ r ∈ p.1, r.length ≤ 4294967296) (hx' : ∀ r ∈ q.1, r.length ≤ 4294967296) : ∃ v : List Int × Bool × Unit, zz21 p q = some (v, ()) ∧ zz39 p q = some (v, ()) ∧ v.1.length ≤ 10 := by
  unfold zz21 zz21_s zz39 zz39_s zz33 zz33_s
  rcases lat_cases hx with ⟨n, lp, e, h, h1, h2⟩ | ⟨h1, l, h2⟩
  · subst e
    rw [h1, h2, Option.bind_some, Option.bind_some]
    simp only [Bool.not_true, cond_false]
    rcases lat_cases hx' with ⟨m, lq, e, h', h1', h2'⟩ | ⟨h1', l', h2'⟩
    · subst e
      rw [h1', h2', Option.bind_some, Option.bind_some]
      simp only [Bool.not_true, cond_false, cond_true, Option.bind_some]
      have hb := big_ge
      have h10 := h'.le10
      obtain ⟨f1, f2⟩ := find_eq h h' m [] (by simp) (by simp) big (by omega)
      rw [cs_nil] at f1 f2
      rw [f1, f2, Option.bind_some, Option.bind_some]
      cases hr : sub n m lp lq m [] with
      | none => exact ⟨_, rfl, rfl, by simp [sOut]⟩
      | some T =>
        have := sub_len hr
        refine ⟨_, rfl, rfl, ?_⟩
        simp only [sOut, cs_len]
        simp at this
        omega
    · rw [h1', h2', Option.bind_some, Option.bind_some]
      exact ⟨_, rfl, rfl, by simp⟩
  · rw [h1, h2, Option.bind_some, Option.bind_some]
    simp only [Bool.not_false, cond_true]
    rcases lat_cases hx' with ⟨m, lq, e, h', h1', h2'⟩ | ⟨h1', l', h2'⟩
    · rw [h2']
      exact ⟨_, rfl, rfl, by simp⟩
    · rw [h2']
      exact ⟨_, rfl, rfl, by simp⟩

theorem true_FindSublattice (p q : PT) (hw : Wf (.pair (.pair (.sl (.sl I)) .unit) (.pair (.pair (.sl (.sl I)) .unit) .unit)) (p, q, ())) : laws_FnExactFindSublattice p q = some (true, ()) := by
  unfold laws_FnExactFindSublattice laws_FnExactFindSublattice_s
  obtain ⟨v, hv, hv1, hv2⟩ := szPoset_eq p 1048576 hw.1 (by omega) (by omega)
  rw [hv, Option.bind_some]
  by_cases h : v < 0
  · rw [cdt h]
  · have hs := hv2 (by omega)
    obtain ⟨u, hu, hu1, hu2⟩ := szPoset_eq q v hw.2.1 (by omega) (by omega)
    rw [cdf h, hu, Option.bind_some]
    by_cases h3 : u < 0
    · rw [cdt h3]
    · have hs2 := hu2 (by omega)
      obtain ⟨r, h1, h2, h4⟩ := findSub_eq p q hs.rows hs2.rows
      obtain ⟨m, j, hm, hj, hj2⟩ := markPoset_ok2 hs 1 (by omega) (by omega)
      obtain ⟨m', j', hm', hj', hj2'⟩ := markPoset_ok2 hs2 j hj (by omega)
      simp only [cdf (show ¬ u < 0 by omega), toPoset_eq hs, toPoset_eq hs2, Option.bind_some, h1, h2, eqPoset_eq hs, eqPoset_eq hs2, eqIntS_eq r.1 r.1 (show r.1.length ≤ 1099511627775 by omega),
        hm, hm', markIntS_eq2 r.1 1 (show r.1.length ≤ 1099511627775 by omega) (show (0 : Int) ≤ 1 by omega) (show (1 : Int) ≤ 10995116277760 by omega), heldIntS_eq 1 r.1.length (show r.1.length ≤ 1099511627775 by omega) (show (0 : Int) ≤ 1 by omega) (show (1 : Int) ≤ 1099511627776 by omega)]
      simp
      repeat rw [cdf (by omega)]


end Go.Proofs.Ytcgoaplbnjcboaa
