import Derived.Test.YtafkhhcnmmkieaaPTab
import Derived.Test.YtafkhhcnmmkieaaHC
import Derived.KernelRfl
set_option linter.unusedVariables false
set_option linter.unusedSimpArgs false
namespace Go.Proofs.Ytafkhhcnmmkieaa
open Go Go.Gx Go.Proofs

theorem toIntS_l (N : Nat) (k : List Int → Option (List Int × Unit)) : ∀ (n : Nat) (a out : List Int) (i : Nat), a.length - i < n → i ≤ a.length → out.length = a.length → a.length ≤ 1099511627776 →
    zz3_l3 N k n a out i = k (out.take i ++ a.drop i)
  | 0, _, _, _, h, _, _, _ => by omega
  | n + 1, a, out, i, h, hi, ho, hb => by
    simp only [zz3_l3, zz3_b3]
    by_cases hlt : i < a.length
    · rw [cdt (by omega), atI_lt a i hlt, Option.bind_some, atI_lt out i (by omega), Option.bind_some, Int.toNat_natCast, List.getElem?_eq_getElem (by omega), Option.bind_some, wr (by omega) (by omega)]
      have := toIntS_l N k n a (out.set i a[i]) (i + 1) (by omega) (by omega) (by simpa using ho) hb
      rw [show ((i : Int) + 1) = ((i + 1 : Nat) : Int) by omega, this]
      congr 1
      rw [List.take_succ_eq_append_getElem (by simp; omega), List.take_set, List.set_eq_of_length_le (by simp [Nat.min_le_left]), List.append_assoc]
      congr 1
      rw [List.getElem_set_self, List.singleton_append, ← List.drop_eq_getElem_cons hlt]
    · rw [cdf (by omega)]
      have : i = a.length := by omega
      subst this
      rw [List.drop_length, List.append_nil, List.take_of_length_le (by omega)]

theorem toIntS_eq (a : List Int) (h : a.length ≤ 4294967296) : zz3 big a = some (a, ()) := by
  have hb := big_ge
  unfold zz3 zz3_s
  rw [mkI_nat _ _ h, Option.bind_some, Option.bind_some, cdt (by omega)]
  unfold zz3_F3
  have := toIntS_l big zz3_a3 big a (List.replicate a.length 0) 0 (by omega) (by omega) (by simp) (by omega)
  refine Eq.trans this ?_
  simp [zz3_a3]

theorem eqIntS_l (N : Nat) (k : Option (Bool × Unit)) : ∀ (n : Nat) (a b : List Int) (i : Nat), a.length - i < n → i ≤ a.length → b.length = a.length → a.length ≤ 1099511627776 →
    zz62_l4 N k n a b i = if a.drop i = b.drop i then k else some (false, ())
  | 0, _, _, _, h, _, _, _ => by omega
  | n + 1, a, b, i, h, hi, hl, hb => by
    simp only [zz62_l4, zz62_b4]
    by_cases hlt : i < a.length
    · rw [cdt (by omega), atI_lt a i hlt, Option.bind_some, atI_lt b i (by omega), Option.bind_some, wr (by omega) (by omega)]
      have := eqIntS_l N k n a b (i + 1) (by omega) (by omega) hl hb
      rw [show ((i : Int) + 1) = ((i + 1 : Nat) : Int) by omega, this]
      rw [List.drop_eq_getElem_cons hlt, List.drop_eq_getElem_cons (show i < b.length by omega)]
      by_cases hx : a[i] = b[i]
      · rw [cdf (by simpa using hx), hx]; simp only [List.cons.injEq, true_and]
      · rw [cdt hx, if_neg (fun e => hx (by simp only [List.cons.injEq] at e; exact e.1))]
    · rw [cdf (by omega), List.drop_eq_nil_of_le (by omega), List.drop_eq_nil_of_le (by omega)]
      simp

theorem eqIntS_eq (a b : List Int) (h : a.length ≤ 1099511627775) : zz62 big a b = some (decide (a = b), ()) := by
  have hb := big_ge
  unfold zz62 zz62_s
  by_cases hl : a.length = b.length
  · rw [cdf (by simp [hl])]
    unfold zz62_F4
    have := eqIntS_l big zz62_a4 big a b 0 (by omega) (by omega) (by omega) (by omega)
    rw [show (0 : Int) = ((0 : Nat) : Int) from rfl, this]
    simp only [List.drop_zero, zz62_a4]
    by_cases he : a = b <;> simp [he]
  · rw [cdt (by omega)]
    have : a ≠ b := by rintro rfl; exact hl rfl
    simp [this]

theorem l1In_eq (x a b : Int) : zz6 x a b = some (decide (a ≤ x ∧ x ≤ b), ()) := by
  unfold zz6 zz6_s
  by_cases h : a ≤ x <;> simp [h]

def marks : Int → Nat → List Int
  | _, 0 => []
  | k, n + 1 => k :: marks (k + 1) n

theorem marks_len : ∀ (k : Int) (n : Nat), (marks k n).length = n
  | _, 0 => rfl
  | k, n + 1 => by simp [marks, marks_len (k + 1) n]

theorem markIntS_l (N : Nat) (kk : List Int → Int → Option (Int × (List Int × Unit))) : ∀ (n : Nat) (a : List Int) (k : Int) (i : Nat), a.length - i < n → i ≤ a.length → a.length ≤ 1099511627776 → 0 ≤ k → k ≤ 1125899906842624 →
    k + (a.length - i : Nat) ≤ 1125899906842624 → zz65_l2 N kk n a k i = kk (a.take i ++ marks k (a.length - i)) (k + (a.length - i : Nat))
  | 0, _, _, _, h, _, _, _, _, _ => by omega
  | n + 1, a, k, i, h, hi, hb, hk0, hk, hk2 => by
    simp only [zz65_l2, zz65_b2]
    by_cases hlt : i < a.length
    · rw [cdt (by omega), atI_lt a i hlt, Option.bind_some, Int.toNat_natCast, List.getElem?_eq_getElem hlt, Option.bind_some, wr (by omega) (by omega), wr (by omega) (by omega)]
      have := markIntS_l N kk n (a.set i k) (k + 1) (i + 1) (by simp; omega) (by simp; omega) (by simpa using hb) (by omega) (by omega) (by simp; omega)
      rw [show ((i : Int) + 1) = ((i + 1 : Nat) : Int) by omega, this]
      rw [List.length_set, List.take_succ_eq_append_getElem (by simp; omega), List.take_set, List.set_eq_of_length_le (by simp [Nat.min_le_left]), List.append_assoc, List.getElem_set_self]
      have e : a.length - i = (a.length - (i + 1)) + 1 := by omega
      rw [e, marks]
      congr 1
      omega
    · rw [cdf (by omega)]
      have : i = a.length := by omega
      subst this
      simp [marks]

theorem heldIntS_l (N : Nat) (kk : Int → Option (Int × Unit)) : ∀ (n : Nat) (a b : List Int) (k : Int) (d : Nat), d < n → a = b ++ marks k d → a.length ≤ 1099511627776 → 0 ≤ k → k + d ≤ 1125899906842624 →
    zz68_l2 N kk n a k b.length = kk (k + d)
  | 0, _, _, _, _, h, _, _, _, _ => by omega
  | n + 1, a, b, k, d, h, ha, hb, hk0, hk => by
    simp only [zz68_l2, zz68_b2]
    have hlen : a.length = b.length + d := by rw [ha]; simp [marks_len]
    cases d with
    | zero => rw [cdf (by omega)]; simp
    | succ d =>
      have hlt : b.length < a.length := by omega
      have hx : a[b.length] = k := by
        have : a[b.length]? = some k := by rw [ha]; simp [marks]
        rw [List.getElem?_eq_getElem hlt] at this
        simpa using this
      rw [cdt (by omega), atI_lt a b.length hlt, Option.bind_some, hx, cdf (by simp), wr (by omega) (by omega), wr (by omega) (by omega)]
      have := heldIntS_l N kk n a (b ++ [k]) (k + 1) d (by omega) (by rw [ha, marks, List.append_assoc]; rfl) hb (by omega) (by omega)
      rw [List.length_append, List.length_singleton] at this
      rw [show ((b.length : Int) + 1) = ((b.length + 1 : Nat) : Int) by omega, this]
      congr 1
      omega

theorem heldIntS_eq (k : Int) (d : Nat) (h : d ≤ 1099511627775) (hk : 0 ≤ k) (hk2 : k ≤ 1099511627776) : zz68 big (marks k d) k = some (k + d, ()) := by
  have hb := big_ge
  unfold zz68 zz68_s zz68_F2
  exact heldIntS_l big zz68_a2 big (marks k d) [] k d (by omega) rfl (by rw [marks_len]; omega) hk (by omega)

def subst (l : Int) (s : List Int) : List Int → List Int
  | [] => []
  | x :: xs => if x = l then s ++ subst l s xs else x :: subst l s xs

theorem eqIntSS_l (N : Nat) (k : Option (Bool × Unit)) : ∀ (n : Nat) (a b : List (List Int)) (i : Nat), a.length - i < n → i ≤ a.length → b.length = a.length → a.length ≤ 1099511627776 → (∀ x ∈ a, x.length ≤ 4294967296) →
    zz63_l4 N k n a b i = if a.drop i = b.drop i then k else some (false, ())
  | 0, _, _, _, h, _, _, _, _ => by omega
  | n + 1, a, b, i, h, hi, hl, hb, hx => by
    simp only [zz63_l4, zz63_b4]
    by_cases hlt : i < a.length
    · have hxx := hx _ (List.getElem_mem hlt)
      rw [cdt (by omega), atI_lt a i hlt, Option.bind_some, atI_lt b i (by omega), Option.bind_some, eqIntS_eq _ _ (by omega), Option.bind_some, wr (by omega) (by omega)]
      have := eqIntSS_l N k n a b (i + 1) (by omega) (by omega) hl hb hx
      rw [show ((i : Int) + 1) = ((i + 1 : Nat) : Int) by omega, this]
      rw [List.drop_eq_getElem_cons hlt, List.drop_eq_getElem_cons (show i < b.length by omega)]
      by_cases hx : a[i] = b[i]
      · rw [hx]; simp only [decide_true, Bool.not_true, cond_false, List.cons.injEq, true_and]
      · rw [decide_eq_false hx]; exact (if_neg (fun e => hx (List.cons.inj e).1)).symm
    · rw [cdf (by omega), List.drop_eq_nil_of_le (by omega), List.drop_eq_nil_of_le (by omega)]
      simp

theorem eqIntSS_eq (a b : List (List Int)) (h : a.length ≤ 1099511627775) (hx : ∀ x ∈ a, x.length ≤ 4294967296) : zz63 big a b = some (decide (a = b), ()) := by
  have hb := big_ge
  unfold zz63 zz63_s
  by_cases hl : a.length = b.length
  · rw [cdf (by simp [hl])]
    unfold zz63_F4
    have := eqIntSS_l big zz63_a4 big a b 0 (by omega) (by omega) (by omega) (by omega) hx
    refine Eq.trans this ?_
    simp only [List.drop_zero, zz63_a4]
    by_cases he : a = b <;> simp [he]
  · rw [cdt (by omega)]
    have : a ≠ b := by rintro rfl; exact hl rfl
    simp [this]

theorem markIntS_eq2 (a : List Int) (k : Int) (h : a.length ≤ 1099511627775) (hk : 0 ≤ k) (hk2 : k ≤ 10995116277760) : zz65 big a k = some (k + a.length, (marks k a.length, ())) := by
  have hb := big_ge
  unfold zz65 zz65_s zz65_F2
  have := markIntS_l big zz65_a2 big a k 0 (by omega) (by omega) (by omega) hk (by omega) (by omega)
  refine Eq.trans this ?_
  simp [zz65_a2]

def risingB : List Int → Bool
  | x :: y :: r => decide (x < y) && risingB (y :: r)
  | _ => true

def inB (n : Nat) (x : Int) : Bool := decide (0 ≤ x ∧ x < n)

def isSetB (n : Nat) (s : List Int) : Bool := s.all (inB n) && risingB s

theorem rising_step (l : List Int) (i : Nat) (h : i < l.length) (h1 : 1 ≤ i) : risingB (l.drop (i - 1)) = (decide (l[i - 1] < l[i]) && risingB (l.drop i)) := by
  rw [List.drop_eq_getElem_cons (show i - 1 < l.length by omega), show i - 1 + 1 = i by omega, List.drop_eq_getElem_cons h]
  rfl

theorem rising_end (l : List Int) (i : Nat) (h : l.length ≤ i) (h1 : 1 ≤ i) : risingB (l.drop (i - 1)) = true := by
  by_cases h2 : l.length = i
  · rw [List.drop_eq_getElem_cons (show i - 1 < l.length by omega), List.drop_eq_nil_of_le (by omega)]
    rfl
  · rw [List.drop_eq_nil_of_le (by omega)]
    rfl

theorem specRising_l (N : Nat) {m : Nat} : ∀ (n : Nat) (l : List Int) (i : Nat), l.length - i < n → i ≤ l.length → l.length ≤ 1099511627776 →
    zz7_l2 N zz7_a2 n l 0 ((m : Int) - 1) i = some ((l.drop i).all (inB m) && risingB (l.drop (i - 1)), ())
  | 0, _, _, h, _, _ => by omega
  | n + 1, l, i, h, hi, hb => by
    simp only [zz7_l2, zz7_b2]
    by_cases hlt : i < l.length
    · have e : decide (0 ≤ l[i] ∧ l[i] ≤ (m : Int) - 1) = inB m l[i] := by
        unfold inB; congr 1; exact propext ⟨fun h => ⟨h.1, by omega⟩, fun h => ⟨h.1, by omega⟩⟩
      rw [cdt (by omega), atI_lt l i hlt, Option.bind_some, l1In_eq, Option.bind_some, e, wr (n := (i : Int) + 1) (by omega) (by omega), wr (n := (i : Int) - 1) (by omega) (by omega)]
      rw [show ((i : Int) + 1) = ((i + 1 : Nat) : Int) by omega, specRising_l N n l (i + 1) (by omega) (by omega) hb]
      rw [show i + 1 - 1 = i by omega]
      cases hin : inB m l[i] with
      | false =>
        rw [List.drop_eq_getElem_cons hlt, List.all_cons, hin]
        rfl
      | true =>
        simp only [Bool.not_true, cond_false]
        by_cases h0 : 0 < i
        · rw [cdt (by omega), show ((i : Int) - 1) = ((i - 1 : Nat) : Int) by omega, atI_lt l (i - 1) (by omega), Option.bind_some, Option.bind_some, rising_step l i hlt h0]
          by_cases hle : l[i] ≤ l[i - 1]
          · rw [cdt hle, decide_eq_false (by omega)]
            simp
          · rw [cdf hle, decide_eq_true (show l[i - 1] < l[i] by omega), List.drop_eq_getElem_cons hlt, List.all_cons, hin]
            simp
        · rw [cdf (by omega)]
          have : i = 0 := by omega
          subst this
          rw [show (0 : Nat) - 1 = 0 from rfl, List.drop_eq_getElem_cons hlt, List.all_cons, hin]
          simp
    · rw [cdf (by omega), List.drop_eq_nil_of_le (by omega)]
      by_cases h1 : 1 ≤ i
      · rw [rising_end l i (by omega) h1]; rfl
      · have : l = [] := List.eq_nil_of_length_eq_zero (by omega)
        subst this
        simp [risingB, zz7_a2]

theorem inSize_l (N : Nat) {m : Nat} : ∀ (n : Nat) (l : List Int) (i : Nat), l.length - i < n → i ≤ l.length → l.length ≤ 1099511627776 →
    zz31_l2 N zz31_a2 n (m : Int) l (l.length : Int) i = some ((l.drop i).all (inB m), ())
  | 0, _, _, h, _, _ => by omega
  | n + 1, l, i, h, hi, hb => by
    simp only [zz31_l2, zz31_b2]
    by_cases hlt : i < l.length
    · rw [cdt (by omega), atI_lt l i hlt, Option.bind_some, wr (n := (i : Int) + 1) (by omega) (by omega)]
      rw [show ((i : Int) + 1) = ((i + 1 : Nat) : Int) by omega, inSize_l N n l (i + 1) (by omega) (by omega) hb]
      rw [List.drop_eq_getElem_cons hlt, List.all_cons]
      unfold inB
      by_cases h0 : l[i] < 0
      · rw [cdt h0, decide_eq_false (by omega)]; rfl
      · rw [cdf h0]
        by_cases h1 : (m : Int) ≤ l[i]
        · rw [cdt h1, decide_eq_false (by omega)]; rfl
        · rw [cdf h1, decide_eq_true (by omega)]; rfl
    · rw [cdf (by omega), List.drop_eq_nil_of_le (by omega)]
      rfl

theorem rises_l (N : Nat) : ∀ (n : Nat) (l : List Int) (i : Nat), l.length - i < n → 1 ≤ i → l.length ≤ 1099511627776 → i ≤ 1099511627777 →
    zz30_l2 N zz30_a2 n l i = some (risingB (l.drop (i - 1)), ())
  | 0, _, _, h, _, _, _ => by omega
  | n + 1, l, i, h, hi, hb, hi2 => by
    simp only [zz30_l2, zz30_b2]
    by_cases hlt : i < l.length
    · rw [cdt (by omega), wr (n := (i : Int) - 1) (by omega) (by omega), show ((i : Int) - 1) = ((i - 1 : Nat) : Int) by omega, atI_lt l (i - 1) (by omega), Option.bind_some, atI_lt l i hlt, Option.bind_some, wr (n := (i : Int) + 1) (by omega) (by omega)]
      rw [show ((i : Int) + 1) = ((i + 1 : Nat) : Int) by omega, rises_l N n l (i + 1) (by omega) (by omega) hb (by omega), rising_step l i hlt hi, show i + 1 - 1 = i by omega]
      by_cases hle : l[i] ≤ l[i - 1]
      · rw [cdt hle, decide_eq_false (by omega)]; rfl
      · rw [cdf hle, decide_eq_true (by omega)]; rfl
    · rw [cdf (by omega), rising_end l i (by omega) hi]
      rfl

theorem wr1 {i : Nat} (h : i ≤ 4611686018427387904) : IntKind.i64.wrap ((i : Int) + 1) = ((i + 1 : Nat) : Int) := by rw [wr (by omega) (by omega)]; omega

abbrev PT := List (List Int) × Unit

def pos (n : Nat) (le : Nat → Nat → Bool) : PT := (mkR n fun y => cs (fl n fun x => le x y), ())

def leP (p : PT) (x y : Nat) : Bool := decide ((x : Int) ∈ p.1.getD y [])

structure Ord (n : Nat) (le : Nat → Nat → Bool) : Prop where
  refl : ∀ x, x < n → le x x = true
  anti : ∀ x y, x < n → y < n → x ≠ y → le x y = true → le y x = false
  trans : ∀ x y z, x < n → y < n → z < n → le x y = true → le y z = true → le x z = true

structure Good (p : PT) : Prop where
  len : p.1.length ≤ 10
  rows : ∀ r ∈ p.1, isSetB p.1.length r = true
  ord : Ord p.1.length (leP p)

theorem l1Has_eq (l : List Int) (x : Int) (h : l.length ≤ 4294967296) : zz8 big l x = some (decide (x ∈ l), ()) := by
  unfold zz8 zz8_s
  refine zz8_h2 l.length (fun i => x ∉ l.take i) (by omega) ?_ ?_ 0 (by omega) (by simp)
  · intro rc i hi hv ih
    unfold zz8_b2
    rw [cdt (by omega), atI_lt l i hi, Option.bind_some]
    by_cases hx : l[i] = x
    · rw [cdt hx, decide_eq_true (hx ▸ List.getElem_mem hi)]
    · rw [cdf hx, wr1 (by omega)]
      refine ih fun h => ?_
      rw [List.take_succ_eq_append_getElem hi, List.mem_append, List.mem_singleton] at h
      exact h.elim hv fun e => hx e.symm
  · intro rc hv
    unfold zz8_b2
    rw [cdf (by omega), zz8_a2, decide_eq_false (by simpa using hv)]

theorem l1Has_cs (S : List Nat) (x : Nat) (h : S.length ≤ 4294967296) : zz8 big (cs S) (x : Int) = some (decide (x ∈ S), ()) := by
  rw [l1Has_eq _ _ (by simpa using h)]
  simp only [cs_mem]

theorem l5Within_eq (a b : List Int) (ha : a.length ≤ 4294967296) (hb : b.length ≤ 4294967296) : zz9 big a b = some (tv (∀ x ∈ a, x ∈ b), ()) := by
  unfold zz9 zz9_s
  refine zz9_h2 a.length (fun i => ∀ x ∈ a.take i, x ∈ b) (by omega) ?_ ?_ 0 (by omega) (by simp)
  · intro rc i hi hv ih
    unfold zz9_b2
    rw [cdt (by omega), atI_lt a i hi, Option.bind_some, l1Has_eq _ _ hb, Option.bind_some]
    by_cases hx : a[i] ∈ b
    · rw [decide_eq_true hx, wr1 (by omega)]
      exact ih ((all_take_succ hi).2 ⟨hv, hx⟩)
    · rw [decide_eq_false hx, tv_f fun h => hx (h _ (List.getElem_mem hi))]
      rfl
  · intro rc hv
    unfold zz9_b2
    rw [cdf (by omega), zz9_a2, tv_t (by simpa using hv)]

theorem specRising_eq (n : Nat) (s : List Int) (hn : n ≤ 1099511627776) (hs : s.length ≤ 1099511627775) : zz7 big s 0 ((n : Int) - 1) = some (isSetB n s, ()) := by
  have hb := big_ge
  unfold zz7 zz7_s zz7_F2
  have := specRising_l big (m := n) big s 0 (by omega) (by omega) (by omega)
  rw [show zz7_l2 big zz7_a2 big s 0 ((n : Int) - 1) 0 = _ from this]
  rfl

theorem inSize_eq (n : Nat) (s : List Int) (hs : s.length ≤ 1099511627775) : zz31 big s (n : Int) = some (s.all (inB n), ()) := by
  have hb := big_ge
  unfold zz31 zz31_s zz31_F2
  have h1 := inSize_l big (m := n) big s 0 (by omega) (by omega) (by omega)
  rw [show (0 : Int) = ((0 : Nat) : Int) from rfl, h1]
  rfl

theorem rises_eq (s : List Int) (hs : s.length ≤ 1099511627775) : zz30 big s = some (risingB s, ()) := by
  have hb := big_ge
  unfold zz30 zz30_s zz30_F2
  have h2 := rises_l big big s 1 (by omega) (by omega) (by omega) (by omega)
  rw [show (1 : Int) = ((1 : Nat) : Int) from rfl, h2]
  rfl

theorem rising_pair : ∀ {l : List Int}, risingB l = true → l.Pairwise (· < ·)
  | [], _ => List.Pairwise.nil
  | [x], _ => by simp
  | x :: y :: r, h => by
    simp only [risingB, Bool.and_eq_true, decide_eq_true_eq] at h
    have h2 := rising_pair h.2
    refine List.pairwise_cons.2 ⟨fun z hz => ?_, h2⟩
    rcases List.mem_cons.1 hz with rfl | hz
    · exact h.1
    · have := (List.pairwise_cons.1 h2).1 z hz
      omega

theorem pair_rising : ∀ {l : List Int}, l.Pairwise (· < ·) → risingB l = true
  | [], _ => rfl
  | [x], _ => rfl
  | x :: y :: r, h => by
    have h1 := List.pairwise_cons.1 h
    simp only [risingB, Bool.and_eq_true, decide_eq_true_eq]
    exact ⟨h1.1 y (by simp), pair_rising h1.2⟩

theorem pair_ext : ∀ {l m : List Int}, l.Pairwise (· < ·) → m.Pairwise (· < ·) → (∀ x, x ∈ l ↔ x ∈ m) → l = m
  | [], [], _, _, _ => rfl
  | [], y :: m, _, _, h => by have := (h y).2 (by simp); simp at this
  | x :: l, [], _, _, h => by have := (h x).1 (by simp); simp at this
  | x :: l, y :: m, h1, h2, h => by
    have p1 := List.pairwise_cons.1 h1
    have p2 := List.pairwise_cons.1 h2
    have e : x = y := by
      rcases List.mem_cons.1 ((h x).1 (by simp)) with e | hx
      · exact e
      · rcases List.mem_cons.1 ((h y).2 (by simp)) with e | hy
        · exact e.symm
        · have := p1.1 y hy
          have := p2.1 x hx
          omega
    subst e
    congr 1
    refine pair_ext p1.2 p2.2 fun z => ?_
    constructor
    · intro hz
      rcases List.mem_cons.1 ((h z).1 (List.mem_cons_of_mem _ hz)) with e | hz2
      · have := p1.1 z hz; omega
      · exact hz2
    · intro hz
      rcases List.mem_cons.1 ((h z).2 (List.mem_cons_of_mem _ hz)) with e | hz2
      · have := p2.1 z hz; omega
      · exact hz2

theorem fl_pair (n : Nat) (P : Nat → Bool) : (cs (fl n P)).Pairwise (· < ·) := by
  unfold cs fl
  rw [List.pairwise_map]
  refine List.Pairwise.filter _ ?_
  have := List.pairwise_lt_range (n := n)
  exact this.imp fun h => by omega

theorem setB_form {n : Nat} {l : List Int} (h : isSetB n l = true) : l = cs (fl n fun x => decide ((x : Int) ∈ l)) := by
  unfold isSetB at h
  rw [Bool.and_eq_true] at h
  refine pair_ext (rising_pair h.2) (fl_pair _ _) fun x => ?_
  constructor
  · intro hx
    have h1 := List.all_eq_true.1 h.1 x hx
    unfold inB at h1
    rw [decide_eq_true_eq] at h1
    have e : x = ((x.toNat : Nat) : Int) := by omega
    rw [e, cs_mem, fl_mem]
    refine ⟨by omega, decide_eq_true ?_⟩
    rw [← e]; exact hx
  · intro hx
    unfold cs at hx
    obtain ⟨y, hy, e⟩ := List.mem_map.1 hx
    have := (fl_mem.1 hy).2
    rw [decide_eq_true_eq] at this
    exact e ▸ this

theorem fl_setB (n : Nat) (P : Nat → Bool) : isSetB n (cs (fl n P)) = true := by
  unfold isSetB
  rw [Bool.and_eq_true]
  refine ⟨List.all_eq_true.2 fun x hx => ?_, pair_rising (fl_pair n P)⟩
  unfold cs at hx
  obtain ⟨y, hy, e⟩ := List.mem_map.1 hx
  have := (fl_mem.1 hy).1
  unfold inB
  exact decide_eq_true (by omega)

theorem pos_form {p : PT} (h : ∀ r ∈ p.1, isSetB p.1.length r = true) : p = pos p.1.length (leP p) := by
  unfold pos
  refine Prod.ext ?_ rfl
  refine eq_mkR rfl fun i hi => ?_
  refine (setB_form (h _ (List.getElem_mem hi))).trans ?_
  refine congrArg cs (fl_congr fun x hx => ?_)
  unfold leP
  simp [hi]

theorem pos_len (n : Nat) (le : Nat → Nat → Bool) : (pos n le).1.length = n := mkR_len n _

theorem pos_rows (n : Nat) (le : Nat → Nat → Bool) : ∀ r ∈ (pos n le).1, isSetB (pos n le).1.length r = true := by
  intro r hr
  rw [pos_len]
  obtain ⟨i, _, e⟩ := mkR_mem.1 hr
  exact e ▸ fl_setB _ _

theorem leP_pos {n : Nat} {le : Nat → Nat → Bool} {x y : Nat} (hx : x < n) (hy : y < n) : leP (pos n le) x y = le x y := by
  unfold leP pos
  simp only [List.getD_eq_getElem?_getD, get_mkR hy, Option.getD_some, cs_mem, fl_mem, hx, true_and, Bool.decide_eq_true]

theorem Ord.congr {n : Nat} {le le' : Nat → Nat → Bool} (e : ∀ x y, x < n → y < n → le x y = le' x y) (h : Ord n le) : Ord n le' where
  refl x hx := by rw [← e x x hx hx]; exact h.refl x hx
  anti x y hx hy hxy h1 := by rw [← e y x hy hx]; rw [← e x y hx hy] at h1; exact h.anti x y hx hy hxy h1
  trans x y z hx hy hz h1 h2 := by
    rw [← e x z hx hz]; rw [← e x y hx hy] at h1; rw [← e y z hy hz] at h2
    exact h.trans x y z hx hy hz h1 h2

theorem good_pos {n : Nat} {le : Nat → Nat → Bool} : Good (pos n le) ↔ n ≤ 10 ∧ Ord n le := by
  have e : ∀ x y, x < n → y < n → leP (pos n le) x y = le x y := fun x y hx hy => leP_pos hx hy
  constructor
  · intro h
    have h1 := h.len; have h2 := h.ord
    rw [pos_len] at h1 h2
    exact ⟨h1, h2.congr e⟩
  · intro h
    refine ⟨by rw [pos_len]; exact h.1, pos_rows n le, ?_⟩
    rw [pos_len]
    exact h.2.congr fun x y hx hy => (e x y hx hy).symm

theorem Good.form {p : PT} (h : Good p) : p = pos p.1.length (leP p) := pos_form h.rows

theorem newOrder_eq {n : Nat} (h : n ≤ 4294967296) : zz29 big (n : Int) = some (mkT n fun _ _ => false, ()) := by
  unfold zz29 zz29_s
  rw [mkI_mkR h, Option.bind_some, Option.bind_some, cdt (by omega), mkR_len]
  refine zz29_h3 n (fun i o => o = mkR n fun x => if x < i then mkR n fun _ => false else []) (by omega) ?_ ?_ 0 (by omega) _ (by simp)
  · intro rc i o hi hv ih
    unfold zz29_b3
    rw [cdt (by omega), mkI_mkR h, Option.bind_some, Option.bind_some, cdt (by omega), hv, atI_mkR hi, Option.bind_some, Int.toNat_natCast, get_mkR hi, Option.bind_some, wr1 (by omega)]
    refine ih _ ?_
    rw [mkR_set]
    refine mkR_congr fun x hx => ?_
    by_cases h1 : x = i
    · rw [if_pos h1, if_pos (by omega)]
    · rw [if_neg h1]
      by_cases h2 : x < i
      · rw [if_pos h2, if_pos (by omega)]
      · rw [if_neg h2, if_neg (by omega)]
  · intro rc o hv
    unfold zz29_b3
    rw [cdf (by omega), hv, zz29_a3]
    congr 2
    exact mkR_congr fun x hx => by rw [if_pos hx]

theorem isOrder_eq {n : Nat} {le : Nat → Nat → Bool} (hn : n ≤ 4294967296) : zz32 big (mkT n le) = some (tv (Ord n le), ()) := by
  unfold zz32 zz32_s
  rw [mkR_len]
  refine zz32_h2 n (fun i => ∀ x, x < i → le x x = true ∧ (∀ y, y < n → (x ≠ y → le x y = true → le y x = false) ∧ ∀ z, z < n → le x y = true → le y z = true → le x z = true)) (by omega) ?_ ?_ 0 (by omega) (by intro x hx; omega)
  · intro rc i hi hv ih
    unfold zz32_b2
    rw [cdt (by omega), atI_mkR hi, Option.bind_some, atI_mkR hi, Option.bind_some, mkR_len]
    cases h0 : le i i with
    | false =>
      rw [tv_f fun h => by rw [h.refl i hi] at h0; cases h0]
      rfl
    | true =>
      rw [Bool.not_true, cond_false]
      refine zz32_h7 n (fun j => ∀ y, y < j → (i ≠ y → le i y = true → le y i = false) ∧ ∀ z, z < n → le i y = true → le y z = true → le i z = true) (by omega) ?_ ?_ 0 (by omega) (by intro x hx; omega)
      · intro rc2 j hj hv2 ih2
        have inn : (i ≠ j → le i j = true → le j i = false) → zz32_F12 big rc2 (zz32_a7 rc) (mkT n le) (i : Int) (j : Int) (n : Int) (i : Int) (n : Int) (j : Int) (n : Int) ((0 : Nat) : Int) = some (tv (Ord n le), ()) := by
          intro hij
          refine zz32_h12 n (fun k => ∀ z, z < k → le i j = true → le j z = true → le i z = true) (by omega) ?_ ?_ 0 (by omega) (by intro x hx; omega)
          · intro rc3 k hk hv3 ih3
            unfold zz32_b12
            simp only [cdt (show (k : Int) < (n : Int) by omega), atI_mkR hi, atI_mkR hj, atI_mkR hk, Option.bind_some, wr1 (show k ≤ 4611686018427387904 by omega)]
            cases h1 : le i j with
            | false => exact ih3 (all_lt_succ.2 ⟨hv3, by intro h; rw [h1] at h; cases h⟩)
            | true =>
              cases h2 : le j k with
              | false => exact ih3 (all_lt_succ.2 ⟨hv3, by intro _ h; rw [h2] at h; cases h⟩)
              | true =>
                cases h3 : le i k with
                | false =>
                  rw [tv_f fun h => by rw [h.trans i j k hi hj hk h1 h2] at h3; cases h3]
                  rfl
                | true => exact ih3 (all_lt_succ.2 ⟨hv3, fun _ _ => h3⟩)
          · intro rc3 hv3
            unfold zz32_b12
            rw [cdf (by omega), zz32_a12, wr1 (by omega)]
            exact ih2 (all_lt_succ.2 ⟨hv2, hij, hv3⟩)
        unfold zz32_b7
        rw [cdt (by omega), atI_mkR hi, Option.bind_some, atI_mkR hj, Option.bind_some, atI_mkR hj, Option.bind_some, atI_mkR hi, Option.bind_some, mkR_len]
        by_cases hij : i = j
        · rw [cdf (by omega)]
          exact inn fun h => absurd hij h
        · rw [cdt (by omega)]
          cases h1 : le i j with
          | false => exact inn fun _ h => by rw [h1] at h; cases h
          | true =>
            cases h2 : le j i with
            | false => exact inn fun _ _ => h2
            | true =>
              rw [tv_f fun h => by rw [h.anti i j hi hj hij h1] at h2; cases h2]
              rfl
      · intro rc2 hv2
        unfold zz32_b7
        rw [cdf (by omega), zz32_a7, wr1 (by omega)]
        exact ih (all_lt_succ.2 ⟨hv, h0, hv2⟩)
  · intro rc hv
    unfold zz32_b2
    rw [cdf (by omega), zz32_a2, tv_t]
    exact ⟨fun x hx => (hv x hx).1, fun x y hx hy => ((hv x hx).2 y hy).1, fun x y z hx hy hz => ((hv x hx).2 y hy).2 z hz⟩

theorem mkT_set {α : Type} {n : Nat} {f : Nat → Nat → α} {x y : Nat} {v : α} : (mkT n f).set x ((mkR n (f x)).set y v) = mkT n fun a b => if a = x ∧ b = y then v else f a b := by
  rw [mkR_set]
  refine mkR_congr fun a ha => ?_
  by_cases h : a = x
  · subst h
    rw [if_pos rfl, mkR_set]
    exact mkR_congr fun b hb => by simp
  · rw [if_neg h]
    exact mkR_congr fun b hb => by simp [h]

theorem orderOf_eq (p : PT) (hl : p.1.length ≤ 10) (hx : ∀ r ∈ p.1, r.length ≤ 4294967296) :
    zz33 big p = some (@ite _ (∀ r ∈ p.1, isSetB p.1.length r = true) (Classical.propDecidable _) (mkT p.1.length (leP p), tv (Ord p.1.length (leP p)), ()) ([], false, ()), ()) := by
  unfold zz33 zz33_s
  generalize hn : p.1.length = n
  rw [cdf (by omega), newOrder_eq (by omega), Option.bind_some]
  refine zz33_h6 n (fun i o => (∀ j, j < i → ∀ (h : j < p.1.length), isSetB n p.1[j] = true) ∧ o = mkT n fun a b => decide (b < i) && leP p a b) (by omega) ?_ ?_ 0 (by omega) _ ⟨by intro j hj; omega, mkT_congr fun a b _ _ => by simp⟩
  · intro rc i o hi hv ih
    obtain ⟨hv1, hv2⟩ := hv
    unfold zz33_b6
    have hip : i < p.1.length := by omega
    have hrow := hx _ (List.getElem_mem hip)
    rw [cdt (by omega), atI_lt _ i hip, Option.bind_some, rises_eq _ (by omega), Option.bind_some]
    cases h1 : risingB p.1[i] with
    | false =>
      rw [if_neg fun h => by have := h _ (List.getElem_mem hip); unfold isSetB at this; rw [h1, Bool.and_false] at this; cases this]
      rfl
    | true =>
      rw [Bool.not_true, cond_false, inSize_eq n _ (by omega), Option.bind_some]
      cases h2 : p.1[i].all (inB n) with
      | false =>
        rw [if_neg fun h => by have := h _ (List.getElem_mem hip); unfold isSetB at this; rw [h2, Bool.false_and] at this; cases this]
        rfl
      | true =>
        rw [Bool.not_true, cond_false]
        have hset : isSetB n p.1[i] = true := by unfold isSetB; rw [h1, h2]; rfl
        have hle : ∀ a, leP p a i = decide ((a : Int) ∈ p.1[i]) := by intro a; unfold leP; simp [hip]
        have hform := setB_form hset
        have hS : ∀ a, a ∈ fl n (fun x => decide ((x : Int) ∈ p.1[i])) ↔ a < n ∧ leP p a i = true := by
          intro a; rw [fl_mem, hle]
        generalize fl n (fun x => decide ((x : Int) ∈ p.1[i])) = S at hform hS
        rw [hform, cs_len]
        refine zz33_h11 S.length (fun k o => o = mkT n fun a b => if b < i then leP p a b else decide (b = i ∧ a ∈ S.take k)) ?_ ?_ ?_ 0 (by omega) _ ?_
        · have := congrArg List.length hform
          rw [cs_len] at this
          have := hx _ (List.getElem_mem hip)
          omega
        · intro rc2 k o2 hk hv3 ih2
          have hkn : S[k] < n := ((hS _).1 (List.getElem_mem hk)).1
          have hkS : S.length ≤ 4294967296 := by have := congrArg List.length hform; rw [cs_len] at this; omega
          unfold zz33_b11
          simp only [cdt (show (k : Int) < (S.length : Int) by omega), atI_cs hk, Option.bind_some, hv3, atI_mkR hkn, Int.toNat_natCast, get_mkR hkn, atI_mkR hi, get_mkR hi, wr1 (show k ≤ 4611686018427387904 by omega)]
          refine ih2 _ ?_
          rw [mkT_set]
          refine mkT_congr fun a b _ _ => ?_
          by_cases hb : b < i
          · rw [if_pos hb, if_pos hb, if_neg (by omega)]
          · rw [if_neg hb, if_neg hb]
            simp only [mem_take_succ hk]
            by_cases hbi : b = i
            · by_cases ha : a = S[k]
              · simp [hbi, ha]
              · simp [hbi, ha]
            · simp [hbi]
        · intro rc2 o2 hv3
          unfold zz33_b11
          rw [cdf (by omega), zz33_a11, wr1 (by omega)]
          refine ih _ ⟨fun j hj hjp => ?_, ?_⟩
          · rcases Nat.lt_or_ge j i with h | h
            · exact hv1 j h hjp
            · have : j = i := by omega
              subst this; exact hset
          · rw [hv3]
            refine mkT_congr fun a b ha _ => ?_
            by_cases hb : b < i
            · rw [if_pos hb]; simp [show b < i + 1 by omega]
            · rw [if_neg hb, List.take_length]
              by_cases hbi : b = i
              · subst hbi
                rw [decide_eq_true (show b < b + 1 by omega), Bool.true_and]
                cases h : leP p a b with
                | true => exact decide_eq_true ⟨rfl, (hS a).2 ⟨ha, h⟩⟩
                | false => exact decide_eq_false fun h3 => by rw [((hS a).1 h3.2).2] at h; cases h
              · simp [hbi, show ¬ b < i + 1 by omega]
        · rw [hv2]
          refine mkT_congr fun a b _ _ => ?_
          by_cases hb : b < i
          · simp [hb]
          · simp [hb]
  · intro rc o hv
    obtain ⟨hv1, hv2⟩ := hv
    unfold zz33_b6
    have ho : o = mkT n (leP p) := by rw [hv2]; exact mkT_congr fun a b _ hb => by simp [hb]
    rw [cdf (by omega), zz33_a6, ho, isOrder_eq (by omega), Option.bind_some, if_pos]
    intro r hr
    obtain ⟨j, hj, e⟩ := List.getElem_of_mem hr
    exact e ▸ hv1 j (by omega) hj

theorem orderOf_bad (p : PT) (hl : ¬ p.1.length ≤ 10) : zz33 big p = some (([], false, ()), ()) := by
  unfold zz33 zz33_s
  rw [cdt (by omega)]

theorem orderOf_no (p : PT) (hx : ∀ r ∈ p.1, r.length ≤ 4294967296) (h : ¬ Good p) : ∃ T, zz33 big p = some ((T, false, ()), ()) := by
  by_cases hl : p.1.length ≤ 10
  · rw [orderOf_eq p hl hx]
    by_cases hr : ∀ r ∈ p.1, isSetB p.1.length r = true
    · rw [if_pos hr, tv_f fun ho => h ⟨hl, hr, ho⟩]
      exact ⟨_, rfl⟩
    · rw [if_neg hr]
      exact ⟨_, rfl⟩
  · exact ⟨_, orderOf_bad p hl⟩

theorem orderOf_pos {n : Nat} {le : Nat → Nat → Bool} (hn : n ≤ 10) (ho : Ord n le) : zz33 big (pos n le) = some ((mkT n le, true, ()), ()) := by
  have e : ∀ x y, x < n → y < n → leP (pos n le) x y = le x y := fun x y hx hy => leP_pos hx hy
  rw [orderOf_eq _ (by rw [pos_len]; exact hn) ?_, if_pos (pos_rows n le), pos_len, tv_t (ho.congr fun x y hx hy => (e x y hx hy).symm)]
  · congr 3
    exact mkT_congr fun x y hx hy => e x y hx hy
  · intro r hr
    obtain ⟨i, _, h⟩ := mkR_mem.1 hr
    rw [← h, cs_len]
    have := fl_len n fun x => le x i
    omega

theorem atI_pos {n x : Nat} {le : Nat → Nat → Bool} (hx : x < n) : atI (pos n le).1 (x : Int) = some (cs (fl n fun a => le a x)) := atI_mkR hx

theorem l23Leq_pos {n x y : Nat} {le : Nat → Nat → Bool} (hn : n ≤ 4294967296) (hx : x < n) (hy : y < n) : zz11 (pos n le) (x : Int) (y : Int) = some (le x y, ()) := by
  unfold zz11 zz11_s
  have := fl_len n fun a => le a y
  rw [atI_pos hy, Option.bind_some, l1Has_cs _ _ (by omega), Option.bind_some]
  congr 2
  rw [Bool.eq_iff_iff, decide_eq_true_eq, fl_mem]
  simp [hx]

theorem within_fl {n : Nat} {P Q : Nat → Bool} (hn : n ≤ 4294967296) : zz9 big (cs (fl n P)) (cs (fl n Q)) = some (tv (∀ x, x < n → P x = true → Q x = true), ()) := by
  have h1 := fl_len n P
  have h2 := fl_len n Q
  rw [l5Within_eq _ _ (by rw [cs_len]; omega) (by rw [cs_len]; omega)]
  congr 2
  refine tv_congr ⟨fun h x hx hp => ?_, fun h x hx => ?_⟩
  · exact (fl_mem.1 (cs_mem.1 (h _ (cs_mem.2 (fl_mem.2 ⟨hx, hp⟩))))).2
  · unfold cs at hx
    obtain ⟨y, hy, e⟩ := List.mem_map.1 hx
    have := fl_mem.1 hy
    rw [← e]
    exact cs_mem.2 (fl_mem.2 ⟨this.1, h y this.1 this.2⟩)

theorem specPoset_eq (p : PT) (hx : ∀ r ∈ p.1, r.length ≤ 4294967296) : zz10 big p = some (tv (Good p), ()) := by
  unfold zz10 zz10_s
  by_cases hl : p.1.length ≤ 10
  · generalize hn : p.1.length = n
    rw [cdf (by omega)]
    refine zz10_h5 n (fun i => ∀ j, j < i → ∀ (h : j < p.1.length), isSetB n p.1[j] = true ∧ leP p j j = true) (by omega) ?_ ?_ 0 (by omega) (by intro j hj; omega)
    · intro rc i hi hv ih
      have hip : i < p.1.length := by omega
      have hrow := hx _ (List.getElem_mem hip)
      have hle : ∀ a, leP p a i = decide ((a : Int) ∈ p.1[i]) := by intro a; unfold leP; simp [hip]
      unfold zz10_b5
      rw [cdt (by omega), atI_lt _ i hip, Option.bind_some, wr (by omega) (by omega), specRising_eq n _ (by omega) (by omega), Option.bind_some]
      cases h1 : isSetB n p.1[i] with
      | false =>
        rw [tv_f fun h => by have := h.rows _ (List.getElem_mem hip); rw [hn, h1] at this; cases this]
        rfl
      | true =>
        rw [Bool.not_true, cond_false, Option.bind_some, l1Has_eq _ _ hrow, Option.bind_some, ← hle]
        cases h2 : leP p i i with
        | false =>
          rw [tv_f fun h => by have := h.ord.refl i hip; rw [h2] at this; cases this]
          rfl
        | true =>
          rw [Bool.not_true, cond_false, wr1 (by omega)]
          refine ih fun j hj hjp => ?_
          rcases Nat.lt_or_ge j i with h | h
          · exact hv j h hjp
          · have : j = i := by omega
            subst this; exact ⟨h1, h2⟩
    · intro rc hv
      unfold zz10_b5
      rw [cdf (by omega), zz10_a5]
      have hrows : ∀ r ∈ p.1, isSetB p.1.length r = true := by
        intro r hr
        obtain ⟨j, hj, e⟩ := List.getElem_of_mem hr
        rw [hn]
        exact e ▸ (hv j (by omega) hj).1
      have hform := pos_form hrows
      have hrefl : ∀ x, x < n → leP p x x = true := fun x hxn => (hv x hxn (by omega)).2
      generalize leP p = le at hform hrefl
      rw [hn] at hform
      subst hform
      rw [tv_congr good_pos]
      refine zz10_h10 n (fun i => ∀ x, x < i → ∀ y, y < n → le y x = true → (y ≠ x → le x y = false) ∧ ∀ z, z < n → le z y = true → le z x = true) (by omega) ?_ ?_ 0 (by omega) (by intro j hj; omega)
      · intro rc2 i hi hv2 ih2
        unfold zz10_b10
        rw [cdt (by omega)]
        have hS : ∀ a, a ∈ fl n (fun a => le a i) ↔ a < n ∧ le a i = true := fun a => fl_mem
        have hSl := fl_len n fun a => le a i
        refine zz10_h13 (fl n fun a => le a i).length (fun k => ∀ y ∈ (fl n fun a => le a i).take k, (y ≠ i → le i y = false) ∧ ∀ z, z < n → le z y = true → le z i = true) (by omega) ?_ ?_ 0 (by omega) (by simp)
        · intro rc3 k hk hv3 ih3
          have hk2 := (hS _).1 (List.getElem_mem hk)
          have hk3 := atI_cs hk
          have hk4 : ∀ {P : Nat → Prop}, (∀ y ∈ (fl n fun a => le a i).take (k + 1), P y) ↔ _ := all_take_succ hk
          unfold zz10_b13
          generalize (fl n fun a => le a i)[k] = y at hk2 hk3 hk4
          have hkl := fl_len n fun a => le a y
          simp only [atI_pos hi, Option.bind_some, cs_len, cdt (show (k : Int) < ((fl n fun a => le a i).length : Int) by omega), hk3, atI_pos hk2.1, l1Has_cs (fl n fun a => le a y) i (by omega), within_fl (P := fun a => le a y) (Q := fun a => le a i) (show n ≤ 4294967296 by omega), wr1 (show k ≤ 4611686018427387904 by omega)]
          have e1 : decide (i ∈ fl n fun a => le a y) = le i y := by
            rw [Bool.eq_iff_iff, decide_eq_true_eq, fl_mem]; simp [hi]
          rw [e1]
          have key : (y ≠ i → le i y = false) → cond (!tv (∀ x, x < n → le x y = true → le x i = true)) (some (false, ())) (rc3 (pos n le) (n : Int) (i : Int) ((k + 1 : Nat) : Int)) = some (tv (n ≤ 10 ∧ Ord n le), ()) := by
            intro h1
            by_cases h2 : ∀ x, x < n → le x y = true → le x i = true
            · rw [tv_t h2]
              exact ih3 (hk4.2 ⟨hv3, h1, h2⟩)
            · rw [tv_f h2, tv_f fun h => h2 fun x hxn h3 => h.2.trans _ _ _ hxn hk2.1 hi h3 hk2.2]
              rfl
          by_cases h1 : y = i
          · rw [cdf (by omega)]
            exact key fun h => absurd h1 h
          · rw [cdt (by omega)]
            cases h2 : le i y with
            | true =>
              rw [tv_f (P := n ≤ 10 ∧ Ord n le) fun h => by rw [h.2.anti _ _ hk2.1 hi h1 hk2.2] at h2; cases h2]
              rfl
            | false =>
              rw [cond_false]
              exact key fun _ => h2
        · intro rc3 hv3
          rw [List.take_length] at hv3
          unfold zz10_b13
          rw [atI_pos hi, Option.bind_some, cs_len, cdf (by omega), zz10_a13, wr1 (by omega)]
          exact ih2 (all_lt_succ.2 ⟨hv2, fun y hy hyi => hv3 y ((hS y).2 ⟨hy, hyi⟩)⟩)
      · intro rc2 hv2
        unfold zz10_b10
        rw [cdf (by omega), zz10_a10, tv_t]
        refine ⟨by rw [pos_len] at hl; exact hl, fun x hx => hrefl x hx, fun x y hx hy hxy h => ((hv2 y hy x hx h).1 hxy), fun x y z hx hy hz h1 h2 => (hv2 z hz y hy h2).2 x hx h1⟩
  · rw [cdt (by omega), tv_f fun h => hl h.len]

abbrev du (le : Nat → Nat → Bool) : Nat → Nat → Bool := fun x y => le y x

def low (n : Nat) (le : Nat → Nat → Bool) (S : List Nat) : List Nat := fl n fun z => S.all fun s => le z s

def grt (le : Nat → Nat → Bool) (L : List Nat) : Int := match L.find? fun x => L.all fun y => le y x with
  | some x => (x : Int)
  | none => -1

def bnd (n : Nat) (le : Nat → Nat → Bool) (S : List Nat) : Int := grt le (low n le S)

structure IsGlb (n : Nat) (le : Nat → Nat → Bool) (S : List Nat) (m : Nat) : Prop where
  lt : m < n
  lo : ∀ s ∈ S, le m s = true
  gr : ∀ z, z < n → (∀ s ∈ S, le z s = true) → le z m = true

theorem low_mem {n : Nat} {le : Nat → Nat → Bool} {S : List Nat} {z : Nat} : z ∈ low n le S ↔ z < n ∧ ∀ s ∈ S, le z s = true := by
  unfold low
  rw [fl_mem, List.all_eq_true]

theorem glb_of_bnd {n : Nat} {le : Nat → Nat → Bool} {S : List Nat} (h : 0 ≤ bnd n le S) : IsGlb n le S (bnd n le S).toNat := by
  unfold bnd grt at *
  cases hf : (low n le S).find? fun x => (low n le S).all fun y => le y x with
  | none => rw [hf] at h; exact absurd h (by decide)
  | some x =>
    have h1 := List.find?_some hf
    have h2 := low_mem.1 (List.mem_of_find?_eq_some hf)
    simp only [Int.toNat_natCast]
    exact ⟨h2.1, h2.2, fun z hz hs => List.all_eq_true.1 h1 z (low_mem.2 ⟨hz, hs⟩)⟩

theorem glb_unique {n : Nat} {le : Nat → Nat → Bool} (ho : Ord n le) {S : List Nat} {m k : Nat} (h : IsGlb n le S m) (h2 : IsGlb n le S k) : m = k := by
  by_cases e : m = k
  · exact e
  · have h3 := h.gr k h2.lt h2.lo
    have h4 := h2.gr m h.lt h.lo
    have := ho.anti m k h.lt h2.lt e h4
    rw [this] at h3; cases h3

theorem bnd_of_glb {n : Nat} {le : Nat → Nat → Bool} (ho : Ord n le) {S : List Nat} {m : Nat} (h : IsGlb n le S m) : bnd n le S = (m : Int) := by
  have h0 : 0 ≤ bnd n le S := by
    unfold bnd grt
    cases hf : (low n le S).find? fun x => (low n le S).all fun y => le y x with
    | none =>
      have := List.find?_eq_none.1 hf m (low_mem.2 ⟨h.lt, h.lo⟩)
      exact absurd (List.all_eq_true.2 fun y hy => h.gr y (low_mem.1 hy).1 (low_mem.1 hy).2) this
    | some x => simp
  have := glb_unique ho (glb_of_bnd h0) h
  omega

theorem greatest_eq {n : Nat} {le : Nat → Nat → Bool} {L : List Nat} (hL : ∀ x ∈ L, x < n) (hl : L.length ≤ 4294967296) : zz34 big (mkT n le) (cs L) = some (grt le L, ()) := by
  unfold zz34 zz34_s
  rw [cs_len]
  refine zz34_h2 L.length (fun i => ∀ x ∈ L.take i, ¬ (L.all fun y => le y x) = true) (by omega) ?_ ?_ 0 (by omega) (by simp)
  · intro rc i hi hv ih
    have hx := hL _ (List.getElem_mem hi)
    have hh := @find_hit _ L (fun x => L.all fun y => le y x) i hi hv
    have hn := fun h => ih ((all_take_succ hi).2 ⟨hv, h⟩)
    unfold zz34_b2
    rw [cdt (by omega), atI_cs hi, Option.bind_some, cs_len]
    generalize L[i] = x at hx hh hn
    refine zz34_h6 L.length (fun k b => b = (L.take k).all fun y => le y x) (by omega) ?_ ?_ 0 (by omega) _ rfl
    · intro rc2 k b hk hb ih2
      have hy := hL _ (List.getElem_mem hk)
      have ht := @all_take _ L k hk fun y => le y x
      have ha := atI_cs hk
      unfold zz34_b6
      rw [cdt (by omega), ha, Option.bind_some, wr1 (by omega)]
      generalize L[k] = y at hy ht
      cases b with
      | false => exact ih2 _ (by rw [ht, ← hb]; rfl)
      | true =>
        rw [cond_true, atI_mkR hy, Option.bind_some, atI_mkR hx, Option.bind_some]
        exact ih2 _ (by rw [ht, ← hb]; rfl)
    · intro rc2 b hb
      rw [List.take_length] at hb
      unfold zz34_b6
      rw [cdf (by omega), zz34_a6, hb]
      cases h : L.all fun y => le y x with
      | true =>
        rw [cond_true]
        unfold grt
        rw [hh h]
      | false =>
        rw [cond_false, wr1 (by omega)]
        exact hn (by rw [h]; simp)
  · intro rc hv
    rw [List.take_length] at hv
    unfold zz34_b2
    rw [cdf (by omega), zz34_a2]
    unfold grt
    rw [List.find?_eq_none.2 hv]

theorem low2 {n : Nat} {le : Nat → Nat → Bool} {x y : Nat} : low n le [x, y] = fl n fun z => le z x && le z y := by
  unfold low
  congr 1; funext z; simp

theorem those_meet {n : Nat} {le : Nat → Nat → Bool} (hn : n ≤ 1048576) {x y : Nat} (hx : x < n) (hy : y < n) : zz36 big (mkT n le) (mkT n le, (x : Int), (y : Int), ()) = some (cs (low n le [x, y]), ()) := by
  unfold zz36 zz36_s
  rw [mkR_len, low2]
  refine zz36_h3 n (fun i l => l = cs (fl i fun z => le z x && le z y)) (by omega) ?_ ?_ 0 (by omega) _ rfl
  · intro rc i l hi hv ih
    have hl := fl_len i fun z => le z x && le z y
    unfold zz36_b3 zz35 zz35_s
    simp only [cdt (show (i : Int) < (n : Int) by omega), atI_mkR hi, atI_mkR hx, atI_mkR hy, Option.bind_some, wr1 (show i ≤ 4611686018427387904 by omega)]
    cases h1 : le i x with
    | false => exact ih _ (by rw [hv]; exact fl_f (P := fun z => le z x && le z y) (by simp [h1]))
    | true =>
      simp only [cond_true, Option.bind_some]
      cases h2 : le i y with
      | false => exact ih _ (by rw [hv]; exact fl_f (P := fun z => le z x && le z y) (by simp [h1, h2]))
      | true =>
        rw [cond_true, app1 (by rw [hv, cs_len]; omega), Option.bind_some]
        exact ih _ (by rw [hv]; exact fl_t (P := fun z => le z x && le z y) (by simp [h1, h2]))
  · intro rc l hv
    unfold zz36_b3
    rw [cdf (by omega), zz36_a3, hv]

theorem low_lt {n : Nat} {le : Nat → Nat → Bool} {S : List Nat} : ∀ x ∈ low n le S, x < n := fun x hx => (low_mem.1 hx).1

theorem low_len {n : Nat} {le : Nat → Nat → Bool} {S : List Nat} : (low n le S).length ≤ n := fl_len _ _

theorem meetTable_eq {n : Nat} {le : Nat → Nat → Bool} (hn : n ≤ 1048576) : zz37 big (mkT n le) = some (@ite _ (∀ x y, x < n → y < n → 0 ≤ bnd n le [x, y]) (Classical.propDecidable _) (mkT n fun x y => bnd n le [x, y], true, ()) ([], false, ()), ()) := by
  unfold zz37 zz37_s
  rw [mkR_len]
  refine zz37_h3 n (fun i t => t = (mkR i fun x => mkR n fun y => bnd n le [x, y]) ∧ ∀ x, x < i → ∀ y, y < n → 0 ≤ bnd n le [x, y]) (by omega) ?_ ?_ 0 (by omega) _ ⟨rfl, by intro x hx; omega⟩
  · intro rc i t hi hv ih
    unfold zz37_b3
    rw [cdt (by omega), mkR_len]
    refine zz37_h7 n (fun j r => r = (mkR j fun y => bnd n le [i, y]) ∧ ∀ y, y < j → 0 ≤ bnd n le [i, y]) (by omega) ?_ ?_ 0 (by omega) _ ⟨rfl, by intro x hx; omega⟩
    · intro rc2 j r hj hr ih2
      unfold zz37_b7
      rw [cdt (by omega), those_meet hn hi hj, Option.bind_some, greatest_eq low_lt (by have := @low_len n le [i, j]; omega), Option.bind_some]
      show cond (decide (bnd n le [i, j] < 0)) _ ((appI r [bnd n le [i, j]]).bind _) = _
      by_cases h : 0 ≤ bnd n le [i, j]
      · rw [cdf (by omega), app1 (by rw [hr.1, mkR_len]; omega), Option.bind_some, wr1 (by omega)]
        exact ih2 _ ⟨by rw [hr.1]; exact (mkR_succ j _).symm, all_lt_succ.2 ⟨hr.2, h⟩⟩
      · rw [cdt (by omega), if_neg fun h2 => h (h2 i j hi hj)]
    · intro rc2 r hr
      unfold zz37_b7
      rw [cdf (by omega), zz37_a7, app1 (by rw [hv.1, mkR_len]; omega), Option.bind_some, wr1 (by omega)]
      refine ih _ ⟨?_, all_lt_succ.2 ⟨hv.2, hr.2⟩⟩
      rw [hv.1, hr.1]
      exact (mkR_succ i fun x => mkR n fun y => bnd n le [x, y]).symm
  · intro rc t hv
    unfold zz37_b3
    rw [cdf (by omega), zz37_a3, if_pos fun x y hx hy => hv.2 x hx y hy, hv.1]

theorem dual_eq {n : Nat} {le : Nat → Nat → Bool} (hn : n ≤ 1048576) : zz38 big (mkT n le) = some (mkT n (du le), ()) := by
  unfold zz38 zz38_s
  rw [mkR_len, newOrder_eq (by omega), Option.bind_some]
  refine zz38_h3 n (fun i d => d = mkT n fun a b => decide (a < i) && le b a) (by omega) ?_ ?_ 0 (by omega) _ (mkT_congr fun a b _ _ => by simp)
  · intro rc i d hi hv ih
    unfold zz38_b3
    rw [cdt (by omega), mkR_len]
    refine zz38_h6 n (fun j d => d = mkT n fun a b => (decide (a < i) || decide (a = i) && decide (b < j)) && le b a) (by omega) ?_ ?_ 0 (by omega) _ (by rw [hv]; exact mkT_congr fun a b _ _ => by simp)
    · intro rc2 j d2 hj hv2 ih2
      unfold zz38_b6
      generalize hf : (fun a b => (decide (a < i) || decide (a = i) && decide (b < j)) && le b a) = f at hv2
      simp only [cdt (show (j : Int) < (n : Int) by omega), hv2, atI_mkR hi, get_mkR hi, Option.bind_some, atI_mkR hj, get_mkR hj, Int.toNat_natCast, wr1 (show j ≤ 4611686018427387904 by omega)]
      refine ih2 _ ?_
      rw [mkT_set, ← hf]
      refine mkT_congr fun a b _ _ => ?_
      by_cases h1 : a = i
      · subst h1
        by_cases h2 : b = j
        · subst h2; simp
        · rw [if_neg fun h => h2 h.2, show decide (b < j + 1) = decide (b < j) from decide_eq_decide.2 (by omega)]
      · rw [if_neg fun h => h1 h.1]; simp [h1]
    · intro rc2 d2 hv2
      unfold zz38_b6
      rw [cdf (by omega), zz38_a6, wr1 (by omega)]
      refine ih _ ?_
      rw [hv2]
      refine mkT_congr fun a b _ hb => ?_
      congr 1
      rw [decide_eq_true hb, Bool.and_true, ← Bool.decide_or]
      exact decide_eq_decide.2 (by omega)
  · intro rc d hv
    unfold zz38_b3
    rw [cdf (by omega), zz38_a3, hv]
    congr 2
    exact mkT_congr fun a b ha _ => by simp [ha]

structure Lat (n : Nat) (le : Nat → Nat → Bool) : Prop where
  ne : 0 < n
  meet : ∀ x y, x < n → y < n → 0 ≤ bnd n le [x, y]
  join : ∀ x y, x < n → y < n → 0 ≤ bnd n (du le) [x, y]

def mt (n : Nat) (le : Nat → Nat → Bool) (x y : Nat) : Nat := (bnd n le [x, y]).toNat

def gb (n : Nat) (le : Nat → Nat → Bool) (S : List Nat) : Nat := (bnd n le S).toNat

def lat (n : Nat) (le : Nat → Nat → Bool) : List (List Bool) × List (List Int) × List (List Int) × Unit :=
  (mkT n le, mkT n (fun x y => ((mt n le x y : Nat) : Int)), mkT n (fun x y => ((mt n (du le) x y : Nat) : Int)), ())

structure LatP (n : Nat) (le : Nat → Nat → Bool) : Prop where
  le10 : n ≤ 10
  ord : Ord n le
  lat : Lat n le

theorem latticeOf_pos {n : Nat} {le : Nat → Nat → Bool} (h : LatP n le) : zz39 (pos n le) = some ((some (lat n le), true, ()), ()) := by
  have h10 := h.le10
  have h0 := h.lat.ne
  unfold zz39 zz39_s
  simp only [orderOf_pos h.le10 h.ord, Option.bind_some, Bool.not_true, cond_false, mkR_len, cdf (show ¬ ((n : Int) = 0) by omega), meetTable_eq (le := le) (show n ≤ 1048576 by omega), dual_eq (le := le) (show n ≤ 1048576 by omega), meetTable_eq (le := du le) (show n ≤ 1048576 by omega)]
  rw [if_pos h.lat.meet, if_pos h.lat.join]
  simp only [cond_true]
  have e1 : (mkT n fun x y => bnd n le [x, y]) = mkT n fun x y => ((mt n le x y : Nat) : Int) := mkT_congr fun x y hx hy => by
    have := h.lat.meet x y hx hy
    unfold mt; omega
  have e2 : (mkT n fun x y => bnd n (du le) [x, y]) = mkT n fun x y => ((mt n (du le) x y : Nat) : Int) := mkT_congr fun x y hx hy => by
    have := h.lat.join x y hx hy
    unfold mt; omega
  rw [e1, e2]
  rfl

theorem latticeOf_no {p : PT} (hx : ∀ r ∈ p.1, r.length ≤ 4294967296) (h : ¬ (Good p ∧ Lat p.1.length (leP p))) : ∃ l, zz39 p = some ((l, false, ()), ()) := by
  by_cases hg : Good p
  · have hf := hg.form
    have ho := hg.ord
    have h10 := hg.len
    replace h : ¬ Lat p.1.length (leP p) := fun hl => h ⟨hg, hl⟩
    generalize p.1.length = n at *
    generalize leP p = le at *
    subst hf
    unfold zz39 zz39_s
    simp only [orderOf_pos h10 ho, Option.bind_some, Bool.not_true, cond_false, mkR_len, meetTable_eq (le := le) (show n ≤ 1048576 by omega), dual_eq (le := le) (show n ≤ 1048576 by omega), meetTable_eq (le := du le) (show n ≤ 1048576 by omega)]
    by_cases h0 : n = 0
    · rw [cdt (by omega)]
      exact ⟨_, rfl⟩
    · rw [cdf (by omega)]
      by_cases h1 : ∀ x y, x < n → y < n → 0 ≤ bnd n le [x, y]
      · rw [if_pos h1]
        by_cases h2 : ∀ x y, x < n → y < n → 0 ≤ bnd n (du le) [x, y]
        · exact absurd ⟨by omega, h1, h2⟩ h
        · rw [if_neg h2]
          exact ⟨_, rfl⟩
      · rw [if_neg h1]
        exact ⟨_, rfl⟩
  · obtain ⟨T, hT⟩ := orderOf_no p hx hg
    unfold zz39 zz39_s
    rw [hT, Option.bind_some]
    exact ⟨_, rfl⟩

theorem specDual_pos {n : Nat} {le : Nat → Nat → Bool} (hn : n ≤ 1048576) : zz12 big (pos n le) = some (pos n (du le), ()) := by
  unfold zz12 zz12_s
  refine zz12_h3 n (fun i o => o.1 = mkR i fun y => cs (fl n fun x => le y x)) (by omega) ?_ ?_ 0 (by omega) _ rfl
  · intro rc i o hi hv ih
    unfold zz12_b3
    rw [pos_len, cdt (by omega)]
    refine zz12_h7 n (fun j l => l = cs (fl j fun x => le i x)) (by omega) ?_ ?_ 0 (by omega) _ rfl
    · intro rc2 j l hj hl ih2
      have hlen := fl_len j fun x => le i x
      unfold zz12_b7
      rw [pos_len, cdt (by omega), l23Leq_pos (by omega) hi hj, Option.bind_some, wr1 (by omega)]
      cases h : le i j with
      | true =>
        rw [cond_true, app1 (by rw [hl, cs_len]; omega), Option.bind_some]
        exact ih2 _ (by rw [hl]; exact fl_t (P := fun x => le i x) h)
      | false => exact ih2 _ (by rw [hl]; exact fl_f (P := fun x => le i x) h)
    · intro rc2 l hl
      unfold zz12_b7
      rw [pos_len, cdf (by omega), zz12_a7, app1 (by rw [hv, mkR_len]; omega), Option.bind_some, wr1 (by omega)]
      exact ih _ (by rw [hl]; show o.1 ++ _ = _; rw [hv]; exact (mkR_succ i fun y => cs (fl n fun x => le y x)).symm)
  · intro rc o hv
    unfold zz12_b3
    rw [pos_len, cdf (by omega), zz12_a3]
    unfold pos
    congr 2
    exact Prod.ext hv rfl

theorem specBound_pos {n : Nat} {le : Nat → Nat → Bool} (hn : n ≤ 1048576) {S : List Nat} (hS : ∀ s ∈ S, s < n) (hSl : S.length ≤ 4294967296) : zz13 big (pos n le) (cs S) = some (bnd n le S, ()) := by
  unfold zz13 zz13_s
  refine zz13_h3 n (fun i l => l = cs (fl i fun z => S.all fun s => le z s)) (by omega) ?_ ?_ 0 (by omega) _ rfl
  · intro rc i l hi hv ih
    have hlen := fl_len i fun z => S.all fun s => le z s
    unfold zz13_b3
    rw [pos_len, cdt (by omega)]
    refine zz13_h7 S.length (fun k b => b = (S.take k).all fun s => le i s) (by omega) ?_ ?_ 0 (by omega) _ rfl
    · intro rc2 k b hk hb ih2
      have hs := hS _ (List.getElem_mem hk)
      have ht := @all_take _ S k hk fun s => le i s
      have ha := atI_cs hk
      unfold zz13_b7
      rw [cs_len, cdt (by omega), ha, Option.bind_some, wr1 (by omega)]
      generalize S[k] = s at hs ht
      rw [l23Leq_pos (by omega) hi hs, Option.bind_some]
      cases b with
      | true => exact ih2 _ (by rw [ht, ← hb]; rfl)
      | false => exact ih2 _ (by rw [ht, ← hb]; rfl)
    · intro rc2 b hb
      rw [List.take_length] at hb
      unfold zz13_b7
      rw [cs_len, cdf (by omega), zz13_a7, wr1 (by omega)]
      cases b with
      | true =>
        rw [cond_true, app1 (by rw [hv, cs_len]; omega), Option.bind_some]
        exact ih _ (by rw [hv]; exact fl_t (P := fun z => S.all fun s => le z s) hb.symm)
      | false => exact ih _ (by rw [hv]; exact fl_f (P := fun z => S.all fun s => le z s) hb.symm)
  · intro rc l hv
    unfold zz13_b3
    rw [pos_len, cdf (by omega), zz13_a3]
    replace hv : l = cs (low n le S) := hv
    rw [hv]
    have hll := @low_len n le S
    unfold bnd
    have hlt := @low_lt n le S
    have hfl : low n le S = fl n fun z => S.all fun s => le z s := rfl
    have hw : ∀ x, x < n → zz9 big (cs (low n le S)) (cs (fl n fun a => le a x)) = some ((low n le S).all fun y => le y x, ()) := by
      intro x hx
      rw [hfl, within_fl (by omega), ← hfl]
      congr 2
      exact tv_eq (by rw [List.all_eq_true]; exact ⟨fun h y hy hp => h y (fl_mem.2 ⟨hy, hp⟩), fun h y hy => h y (fl_mem.1 hy).1 (fl_mem.1 hy).2⟩)
    generalize low n le S = L at *
    refine zz13_h13 L.length (fun i => ∀ x ∈ L.take i, ¬ (L.all fun y => le y x) = true) (by omega) ?_ ?_ 0 (by omega) (by simp)
    · intro rc2 i hi hv2 ih2
      have hx := hlt _ (List.getElem_mem hi)
      have hh := @find_hit _ L (fun x => L.all fun y => le y x) i hi hv2
      have hn2 := fun h => ih2 ((all_take_succ hi).2 ⟨hv2, h⟩)
      have ha := atI_cs hi
      have hg := get_cs hi
      unfold zz13_b13
      simp only [cs_len, cdt (show (i : Int) < (L.length : Int) by omega), ha, Option.bind_some, Int.toNat_natCast, hg, wr1 (show i ≤ 4611686018427387904 by omega)]
      generalize L[i] = x at hx hh hn2
      rw [atI_pos hx, Option.bind_some, hw x hx, Option.bind_some]
      cases h : L.all fun y => le y x with
      | true =>
        rw [cond_true]
        unfold grt
        rw [hh h]
      | false =>
        rw [cond_false]
        exact hn2 (by rw [h]; simp)
    · intro rc2 hv2
      rw [List.take_length] at hv2
      unfold zz13_b13
      rw [cs_len, cdf (by omega), zz13_a13]
      unfold grt
      rw [List.find?_eq_none.2 hv2]

theorem bnd_swap {n : Nat} {le : Nat → Nat → Bool} (x y : Nat) : bnd n le [x, y] = bnd n le [y, x] := by
  unfold bnd
  congr 1
  unfold low
  congr 1; funext z; simp [Bool.and_comm]

theorem Ord.du {n : Nat} {le : Nat → Nat → Bool} (h : Ord n le) : Ord n (du le) where
  refl := h.refl
  anti x y hx hy hxy h1 := by
    have h3 : le y x = true := h1
    show le x y = false
    by_cases h2 : le x y = true
    · rw [h.anti x y hx hy hxy h2] at h3; cases h3
    · simpa using h2
  trans x y z hx hy hz h1 h2 := h.trans z y x hz hy hx h2 h1

theorem bnd_self {n : Nat} {le : Nat → Nat → Bool} (ho : Ord n le) {x : Nat} (hx : x < n) : bnd n le [x, x] = (x : Int) :=
  bnd_of_glb ho ⟨hx, by simp [ho.refl x hx], fun z _ h => h x (by simp)⟩

theorem spec24_eq (p : PT) (hx : ∀ r ∈ p.1, r.length ≤ 4294967296) : zz14 big p = some (tv (Good p ∧ Lat p.1.length (leP p)), ()) := by
  unfold zz14 zz14_s
  rw [specPoset_eq p hx, Option.bind_some]
  by_cases hg : Good p
  · rw [tv_t hg]
    have e : (Good p ∧ Lat p.1.length (leP p)) ↔ Lat p.1.length (leP p) := ⟨fun h => h.2, fun h => ⟨hg, h⟩⟩
    rw [tv_congr e, Bool.not_true, cond_false]
    have hf := hg.form
    have ho := hg.ord
    have h10 := hg.len
    clear e hg hx
    generalize p.1.length = n at *
    generalize leP p = le at *
    subst hf
    by_cases h0 : n = 0
    · rw [cdt (by omega), tv_f fun h => by have := h.ne; omega]
    · rw [cdf (by omega), specDual_pos (by omega), Option.bind_some]
      have key : ∀ x y, x < n → y < n → (0 ≤ bnd n le [x, y] ↔ 0 ≤ bnd n le [y, x]) := fun x y _ _ => by rw [bnd_swap]
      refine zz14_h5 n (fun i => ∀ x, x < i → ∀ y, y < x → 0 ≤ bnd n le [x, y] ∧ 0 ≤ bnd n (du le) [x, y]) (by omega) ?_ ?_ 0 (by omega) (by intro x hx; omega)
      · intro rc i hi hv ih
        unfold zz14_b5
        rw [pos_len, cdt (by omega)]
        refine zz14_h8 i (fun j => ∀ y, y < j → 0 ≤ bnd n le [i, y] ∧ 0 ≤ bnd n (du le) [i, y]) (by omega) ?_ ?_ 0 (by omega) (by intro x hx; omega)
        · intro rc2 j hj hv2 ih2
          unfold zz14_b8
          have e : ([(i : Int), (j : Int)] : List Int) = cs [i, j] := rfl
          have hS : ∀ s ∈ [i, j], s < n := by intro s hs; simp at hs; omega
          rw [cdt (by omega), e, specBound_pos (by omega) hS (by simp), Option.bind_some, specBound_pos (le := du le) (by omega) hS (by simp), Option.bind_some]
          by_cases h1 : 0 ≤ bnd n le [i, j]
          · rw [cdf (by omega)]
            by_cases h2 : 0 ≤ bnd n (du le) [i, j]
            · rw [cdf (by omega), wr1 (by omega)]
              exact ih2 (all_lt_succ.2 ⟨hv2, h1, h2⟩)
            · rw [cdt (by omega), tv_f fun h => h2 (h.join i j hi (by omega))]
          · rw [cdt (by omega), tv_f fun h => h1 (h.meet i j hi (by omega))]
        · intro rc2 hv2
          unfold zz14_b8
          rw [cdf (by omega), zz14_a8, wr1 (by omega)]
          exact ih (all_lt_succ.2 ⟨hv, hv2⟩)
      · intro rc hv
        unfold zz14_b5
        rw [pos_len, cdf (by omega), zz14_a5, tv_t]
        refine ⟨by omega, fun x y hx hy => ?_, fun x y hx hy => ?_⟩
        · rcases Nat.lt_trichotomy x y with h | h | h
          · rw [bnd_swap]; exact (hv y hy x h).1
          · subst h; rw [bnd_self ho hx]; omega
          · exact (hv x hx y h).1
        · rcases Nat.lt_trichotomy x y with h | h | h
          · rw [bnd_swap]; exact (hv y hy x h).2
          · subst h; rw [bnd_self ho.du hx]; omega
          · exact (hv x hx y h).2
  · rw [tv_f hg, tv_f fun h => hg h.1]
    rfl

theorem lat_cases {p : PT} (hx : ∀ r ∈ p.1, r.length ≤ 4294967296) : (∃ n le, p = pos n le ∧ LatP n le ∧ zz14 big p = some (true, ()) ∧ zz39 p = some ((some (lat n le), true, ()), ())) ∨
    (zz14 big p = some (false, ()) ∧ ∃ l, zz39 p = some ((l, false, ()), ())) := by
  by_cases h : Good p ∧ Lat p.1.length (leP p)
  · have hl : LatP p.1.length (leP p) := ⟨h.1.len, h.1.ord, h.2⟩
    refine .inl ⟨p.1.length, leP p, h.1.form, hl, by rw [spec24_eq p hx, tv_t h], ?_⟩
    have := latticeOf_pos hl
    rw [← h.1.form] at this
    exact this
  · exact .inr ⟨by rw [spec24_eq p hx, tv_f h], latticeOf_no hx h⟩

theorem those_lattice_isComplemented_c1 {n : Nat} {o : List (List Bool)} (ho : o.length = n) (hn : n ≤ 1048576) {c : ((Option ((List (List Bool)) × ((List (List Int)) × ((List (List Int)) × Unit)))) × Unit)} {P : Nat → Bool} (h : ∀ i, i < n → zz48 (i : Int) c.1 = some (P i, ())) : zz49 big o c = some (cs (fl n P), ()) := by
  unfold zz49 zz49_s
  rw [ho]
  refine zz49_h3 n (fun i l => l = cs (fl i P)) (by omega) ?_ ?_ 0 (by omega) _ rfl
  · intro rc i l hi hv ih
    have hl := fl_len i P
    unfold zz49_b3
    rw [cdt (by omega), h i hi, Option.bind_some, wr1 (by omega)]
    cases hp : P i with
    | true => rw [cond_true, app1 (by rw [hv, cs_len]; omega), Option.bind_some]; exact ih _ (by rw [hv]; exact fl_t hp)
    | false => exact ih _ (by rw [hv]; exact fl_f hp)
  · intro rc l hv
    unfold zz49_b3
    rw [cdf (by omega), zz49_a3, hv]

theorem those_lattice_relative_c1 {n : Nat} {o : List (List Bool)} (ho : o.length = n) (hn : n ≤ 1048576) {c : ((Option ((List (List Bool)) × ((List (List Int)) × ((List (List Int)) × Unit)))) × (Int × (Int × (Int × Unit))))} {P : Nat → Bool} (h : ∀ i, i < n → zz44 (i : Int) c.1 c.2.1 c.2.2.1 c.2.2.2.1 = some (P i, ())) : zz45 big o c = some (cs (fl n P), ()) := by
  unfold zz45 zz45_s
  rw [ho]
  refine zz45_h3 n (fun i l => l = cs (fl i P)) (by omega) ?_ ?_ 0 (by omega) _ rfl
  · intro rc i l hi hv ih
    have hl := fl_len i P
    unfold zz45_b3
    rw [cdt (by omega), h i hi, Option.bind_some, wr1 (by omega)]
    cases hp : P i with
    | true => rw [cond_true, app1 (by rw [hv, cs_len]; omega), Option.bind_some]; exact ih _ (by rw [hv]; exact fl_t hp)
    | false => exact ih _ (by rw [hv]; exact fl_f hp)
  · intro rc l hv
    unfold zz45_b3
    rw [cdf (by omega), zz45_a3, hv]

theorem those_order_upperCovers_c1 {n : Nat} {o : List (List Bool)} (ho : o.length = n) (hn : n ≤ 1048576) {c : ((List (List Bool)) × (Int × Unit))} {P : Nat → Bool} (h : ∀ i, i < n → zz56 (i : Int) c.1 c.2.1 = some (P i, ())) : zz57 big o c = some (cs (fl n P), ()) := by
  unfold zz57 zz57_s
  rw [ho]
  refine zz57_h3 n (fun i l => l = cs (fl i P)) (by omega) ?_ ?_ 0 (by omega) _ rfl
  · intro rc i l hi hv ih
    have hl := fl_len i P
    unfold zz57_b3
    rw [cdt (by omega), h i hi, Option.bind_some, wr1 (by omega)]
    cases hp : P i with
    | true => rw [cond_true, app1 (by rw [hv, cs_len]; omega), Option.bind_some]; exact ih _ (by rw [hv]; exact fl_t hp)
    | false => exact ih _ (by rw [hv]; exact fl_f hp)
  · intro rc l hv
    unfold zz57_b3
    rw [cdf (by omega), zz57_a3, hv]

theorem szIntS_eq (a : List Int) (l : Int) (h : a.length ≤ 9223372036854775807) (h0 : 0 ≤ l) (h1 : l ≤ 1048576) : ∃ v, zz0 a l = some (v, ()) ∧ v ≤ 1048576 ∧ (0 ≤ v → a.length ≤ 1048576) := by
  unfold zz0 zz0_s
  rw [wr (by omega) (by omega)]
  by_cases hl : l - (a.length : Int) < 0
  · rw [cdt hl]
    exact ⟨_, rfl, by omega, by omega⟩
  · rw [cdf hl]
    exact ⟨_, rfl, by omega, by omega⟩

theorem szIntSS_l (N : Nat) : ∀ (n : Nat) (a : List (List Int)) (l : Int) (i : Nat), a.length - i < n → i ≤ a.length → a.length ≤ 1048576 → 0 ≤ l → l ≤ 1048576 → (∀ x ∈ a, x.length ≤ 9223372036854775807) →
    ∃ v, zz1_l5 N zz1_a5 n a l i = some (v, ()) ∧ v ≤ 1048576 ∧ (0 ≤ v → ∀ x ∈ a.drop i, x.length ≤ 1048576)
  | 0, _, _, _, h, _, _, _, _, _ => by omega
  | n + 1, a, l, i, h, hi, hb, h0, h1, hx => by
    simp only [zz1_l5, zz1_b5]
    by_cases hlt : i < a.length
    · obtain ⟨v, hv, hv1, hv2⟩ := szIntS_eq _ l (hx _ (List.getElem_mem hlt)) h0 h1
      rw [cdt (by omega), atI_lt a i hlt, Option.bind_some, hv, Option.bind_some, wr1 (by omega)]
      by_cases hl : v < 0
      · rw [cdt hl]
        exact ⟨_, rfl, by omega, by omega⟩
      · rw [cdf hl]
        obtain ⟨w, hw, hw1, hw2⟩ := szIntSS_l N n a v (i + 1) (by omega) (by omega) hb (by omega) hv1 hx
        refine ⟨w, hw, hw1, fun h x hx' => ?_⟩
        rw [List.drop_eq_getElem_cons hlt] at hx'
        rcases List.mem_cons.1 hx' with rfl | hx'
        · exact hv2 (by omega)
        · exact hw2 h x hx'
    · rw [cdf (by omega), List.drop_eq_nil_of_le (by omega)]
      exact ⟨_, rfl, h1, by simp⟩

theorem szIntSS_eq (a : List (List Int)) (l : Int) (ha : a.length ≤ 9223372036854775807) (hx : ∀ x ∈ a, x.length ≤ 9223372036854775807) (h0 : 0 ≤ l) (h1 : l ≤ 1048576) : ∃ v, zz1 big a l = some (v, ()) ∧ v ≤ 1048576 ∧ (0 ≤ v → a.length ≤ 1048576 ∧ ∀ x ∈ a, x.length ≤ 1048576) := by
  have hb := big_ge
  unfold zz1 zz1_s
  rw [wr (by omega) (by omega)]
  by_cases h : l - (a.length : Int) < 0
  · rw [cdt h]
    exact ⟨_, rfl, by omega, by omega⟩
  · rw [cdf h]
    unfold zz1_F5
    obtain ⟨v, hv, hv1, hv2⟩ := szIntSS_l big big a (l - a.length) 0 (by omega) (by omega) (by omega) (by omega) (by omega) hx
    exact ⟨v, hv, hv1, fun h0 => ⟨by omega, by simpa using hv2 h0⟩⟩

def SmallP (p : PT) : Prop := p.1.length ≤ 1048576 ∧ ∀ r ∈ p.1, r.length ≤ 1048576

theorem szPoset_eq (p : PT) (l : Int) (hw : Wf (.pair (.sl (.sl I)) .unit) p) (h0 : 0 ≤ l) (h1 : l ≤ 1048576) : ∃ v, zz2 p l = some (v, ()) ∧ v ≤ 1048576 ∧ (0 ≤ v → SmallP p) := by
  simp only [Wf, maxLen] at hw
  obtain ⟨v, hv, hv1, hv2⟩ := szIntSS_eq p.1 l hw.1.1 (fun x hx => (hw.1.2 x hx).1) h0 h1
  unfold zz2 zz2_s
  rw [hv, Option.bind_some]
  by_cases h : v < 0
  · rw [cdt h]
    exact ⟨_, rfl, by omega, by omega⟩
  · rw [cdf h]
    exact ⟨_, rfl, hv1, hv2⟩

theorem toIntSS_eq (a : List (List Int)) (h : a.length ≤ 4294967296) (hx : ∀ x ∈ a, x.length ≤ 4294967296) : zz4 big a = some (a, ()) := by
  unfold zz4 zz4_s
  rw [mkI_nat _ _ h, Option.bind_some, Option.bind_some, cdt (by omega)]
  refine zz4_h3 a.length (fun i o => o.length = a.length ∧ o.take i = a.take i) (by omega) ?_ ?_ 0 (by omega) _ ⟨by simp, rfl⟩
  · intro rc i o hi hv ih
    have ho : i < o.length := by omega
    unfold zz4_b3
    rw [cdt (by omega), atI_lt a i hi, Option.bind_some, toIntS_eq _ (hx _ (List.getElem_mem hi)), Option.bind_some, atI_lt o i ho, Option.bind_some, Int.toNat_natCast, List.getElem?_eq_getElem ho, Option.bind_some, wr1 (by omega)]
    refine ih _ ⟨by rw [List.length_set]; exact hv.1, ?_⟩
    rw [List.take_succ_eq_append_getElem (by rw [List.length_set]; exact ho), List.take_succ_eq_append_getElem hi, List.getElem_set_self, List.take_set, List.set_eq_of_length_le (by rw [List.length_take]; omega), hv.2]
  · intro rc o hv
    unfold zz4_b3
    have h1 := hv.2
    rw [List.take_length, ← hv.1, List.take_length] at h1
    rw [cdf (by omega), zz4_a3, h1]

theorem toPoset_eq {p : PT} (h : SmallP p) : zz5 p = some (p, ()) := by
  unfold zz5 zz5_s
  have := h.1
  rw [toIntSS_eq p.1 (by omega) fun x hx => by have := h.2 x hx; omega]
  rfl

theorem eqPoset_eq {p q : PT} (h : SmallP p) : zz64 p q = some (decide (p = q), ()) := by
  unfold zz64 zz64_s
  have := h.1
  rw [eqIntSS_eq p.1 q.1 (by omega) fun x hx => by have := h.2 x hx; omega]
  rw [Option.bind_some]
  by_cases e : p = q
  · subst e; simp
  · rw [decide_eq_false e, decide_eq_false fun h => e (Prod.ext h rfl)]; rfl

theorem SmallP.rows {p : PT} (h : SmallP p) : ∀ r ∈ p.1, r.length ≤ 4294967296 := fun r hr => by have := h.2 r hr; omega

def ls (le : Nat → Nat → Bool) (x y : Nat) : Bool := decide (x ≠ y) && le x y

def cov (n : Nat) (le : Nat → Nat → Bool) (x y : Nat) : Bool := ls le x y && (List.range n).all fun z => !(ls le x z && ls le z y)

theorem less_eq {n : Nat} {le : Nat → Nat → Bool} {x y : Nat} (hx : x < n) (hy : y < n) : zz54 (mkT n le) (x : Int) (y : Int) = some (ls le x y, ()) := by
  unfold zz54 zz54_s ls
  simp only [atI_mkR hx, atI_mkR hy, Option.bind_some]
  by_cases h : x = y
  · rw [cdf (by omega), decide_eq_false (by omega)]; rfl
  · rw [cdt (by omega), decide_eq_true h]; rfl

theorem specLess_eq {n : Nat} {le : Nat → Nat → Bool} (hn : n ≤ 4294967296) {x y : Nat} (hx : x < n) (hy : y < n) : zz24 (pos n le) (x : Int) (y : Int) = some (ls le x y, ()) := by
  unfold zz24 zz24_s ls
  rw [l23Leq_pos hn hx hy, Option.bind_some]
  by_cases h : x = y
  · rw [cdf (by omega), decide_eq_false (by omega)]; rfl
  · rw [cdt (by omega), decide_eq_true h]; rfl

theorem cov_t {n : Nat} {le : Nat → Nat → Bool} {x y : Nat} (h : ls le x y = true) (h2 : ∀ z, z < n → ¬ (ls le x z = true ∧ ls le z y = true)) : cov n le x y = true := by
  unfold cov
  rw [h, Bool.true_and, List.all_eq_true]
  intro z hz
  have := h2 z (List.mem_range.1 hz)
  cases h3 : ls le x z <;> cases h4 : ls le z y <;> simp_all

theorem cov_f {n : Nat} {le : Nat → Nat → Bool} {x y z : Nat} (hz : z < n) (h1 : ls le x z = true) (h2 : ls le z y = true) : cov n le x y = false := by
  unfold cov
  rw [Bool.and_eq_false_iff]
  refine .inr (List.all_eq_false.2 ⟨z, List.mem_range.2 hz, by simp [h1, h2]⟩)

theorem covers_eq {n : Nat} {le : Nat → Nat → Bool} (hn : n ≤ 1048576) {x y : Nat} (hx : x < n) (hy : y < n) : zz55 big (mkT n le) (x : Int) (y : Int) = some (cov n le x y, ()) := by
  unfold zz55 zz55_s
  rw [less_eq hx hy, Option.bind_some, mkR_len]
  cases h : ls le x y with
  | false => simp [cov, h]
  | true =>
    rw [Bool.not_true, cond_false]
    refine zz55_h4 n (fun i => ∀ z, z < i → ¬ (ls le x z = true ∧ ls le z y = true)) (by omega) ?_ ?_ 0 (by omega) (by intro z hz; omega)
    · intro rc i hi hv ih
      unfold zz55_b4
      rw [cdt (by omega), less_eq hx hi, Option.bind_some, less_eq hi hy, Option.bind_some, wr1 (by omega)]
      cases h1 : ls le x i with
      | false => exact ih (all_lt_succ.2 ⟨hv, by simp [h1]⟩)
      | true =>
        cases h2 : ls le i y with
        | false => exact ih (all_lt_succ.2 ⟨hv, by simp [h2]⟩)
        | true => rw [cov_f hi h1 h2]; rfl
    · intro rc hv
      unfold zz55_b4
      rw [cdf (by omega), zz55_a4, cov_t h hv]

theorem specCovers_eq {n : Nat} {le : Nat → Nat → Bool} (hn : n ≤ 1048576) {x y : Nat} (hx : x < n) (hy : y < n) : zz25 big (pos n le) (x : Int) (y : Int) = some (cov n le x y, ()) := by
  unfold zz25 zz25_s
  rw [specLess_eq (by omega) hx hy, Option.bind_some]
  cases h : ls le x y with
  | false => simp [cov, h]
  | true =>
    rw [Bool.not_true, cond_false]
    refine zz25_h4 n (fun i => ∀ z, z < i → ¬ (ls le x z = true ∧ ls le z y = true)) (by omega) ?_ ?_ 0 (by omega) (by intro z hz; omega)
    · intro rc i hi hv ih
      unfold zz25_b4
      rw [pos_len, cdt (by omega), specLess_eq (by omega) hx hi, Option.bind_some, specLess_eq (by omega) hi hy, Option.bind_some, wr1 (by omega)]
      cases h1 : ls le x i with
      | false => exact ih (all_lt_succ.2 ⟨hv, by simp [h1]⟩)
      | true =>
        cases h2 : ls le i y with
        | false => exact ih (all_lt_succ.2 ⟨hv, by simp [h2]⟩)
        | true => rw [cov_f hi h1 h2]; rfl
    · intro rc hv
      unfold zz25_b4
      rw [pos_len, cdf (by omega), zz25_a4, cov_t h hv]

theorem has_eq {n : Nat} {le : Nat → Nat → Bool} (s : List Int) (h : s.length ≤ 4294967296) : zz71 (mkT n le) s = some (s.all (inB n), ()) := by
  unfold zz71 zz71_s
  rw [mkR_len, inSize_eq n s (by omega)]; rfl

theorem inB_form {n : Nat} {x : Int} (h : inB n x = true) : ∃ k : Nat, k < n ∧ x = (k : Int) := by
  unfold inB at h
  rw [decide_eq_true_eq] at h
  exact ⟨x.toNat, by omega, by omega⟩

theorem allB_form {n : Nat} : ∀ {s : List Int}, s.all (inB n) = true → ∃ S : List Nat, s = cs S ∧ ∀ x ∈ S, x < n
  | [], _ => ⟨[], rfl, by simp⟩
  | x :: s, h => by
    rw [List.all_cons, Bool.and_eq_true] at h
    obtain ⟨k, hk, e⟩ := inB_form h.1
    obtain ⟨S, hS, h2⟩ := allB_form h.2
    exact ⟨k :: S, by rw [hS, e]; rfl, by simpa using ⟨hk, h2⟩⟩

theorem fl_first {n : Nat} {P : Nat → Bool} (h : 0 < (fl n P).length) : P (fl n P)[0] = true ∧ (fl n P)[0] < n ∧ ∀ i, i < (fl n P)[0] → P i = false := by
  have h0 := fl_mem.1 (List.getElem_mem h)
  refine ⟨h0.2, h0.1, fun i hi => ?_⟩
  cases hp : P i with
  | false => rfl
  | true =>
    have hm : i ∈ fl n P := fl_mem.2 ⟨by omega, hp⟩
    have hpw : (fl n P).Pairwise (· < ·) := List.Pairwise.filter _ List.pairwise_lt_range
    obtain ⟨k, hk, e⟩ := List.getElem_of_mem hm
    rcases Nat.eq_zero_or_pos k with h1 | h1
    · subst h1; omega
    · have := List.pairwise_iff_getElem.1 hpw 0 k h hk h1
      omega

theorem LatP.du {n : Nat} {le : Nat → Nat → Bool} (h : LatP n le) : LatP n (du le) := ⟨h.le10, Ord.du h.ord, h.lat.ne, h.lat.join, h.lat.meet⟩

theorem LatP.glb {n : Nat} {le : Nat → Nat → Bool} (h : LatP n le) {x y : Nat} (hx : x < n) (hy : y < n) : IsGlb n le [x, y] (mt n le x y) := glb_of_bnd (h.lat.meet x y hx hy)

theorem LatP.bnd2 {n : Nat} {le : Nat → Nat → Bool} (h : LatP n le) {x y : Nat} (hx : x < n) (hy : y < n) : bnd n le [x, y] = ((mt n le x y : Nat) : Int) := by
  have := h.lat.meet x y hx hy
  unfold mt; omega

theorem LatP.mlt {n : Nat} {le : Nat → Nat → Bool} (h : LatP n le) {x y : Nat} (hx : x < n) (hy : y < n) : mt n le x y < n := (h.glb hx hy).lt

theorem LatP.m1 {n : Nat} {le : Nat → Nat → Bool} (h : LatP n le) {x y : Nat} (hx : x < n) (hy : y < n) : le (mt n le x y) x = true := (h.glb hx hy).lo x (by simp)

theorem LatP.m2 {n : Nat} {le : Nat → Nat → Bool} (h : LatP n le) {x y : Nat} (hx : x < n) (hy : y < n) : le (mt n le x y) y = true := (h.glb hx hy).lo y (by simp)

theorem LatP.mg {n : Nat} {le : Nat → Nat → Bool} (h : LatP n le) {x y z : Nat} (hx : x < n) (hy : y < n) (hz : z < n) (h1 : le z x = true) (h2 : le z y = true) : le z (mt n le x y) = true :=
  (h.glb hx hy).gr z hz (by simp [h1, h2])

theorem LatP.tr {n : Nat} {le : Nat → Nat → Bool} (h : LatP n le) {x y z : Nat} (hx : x < n) (hy : y < n) (hz : z < n) (h1 : le x y = true) (h2 : le y z = true) : le x z = true := h.ord.trans x y z hx hy hz h1 h2

theorem LatP.as {n : Nat} {le : Nat → Nat → Bool} (h : LatP n le) {x y : Nat} (hx : x < n) (hy : y < n) (h1 : le x y = true) (h2 : le y x = true) : x = y := by
  by_cases e : x = y
  · exact e
  · rw [h.ord.anti x y hx hy e h1] at h2; cases h2

theorem mt_comm {n : Nat} {le : Nat → Nat → Bool} (x y : Nat) : mt n le x y = mt n le y x := by unfold mt; rw [bnd_swap]

theorem topEx {n : Nat} {le : Nat → Nat → Bool} (h : LatP n le) : ∃ t, IsGlb n le [] t := by
  have key : ∀ i, i ≤ n → ∃ t, t < n ∧ ∀ x, x < i → le x t = true := by
    intro i
    induction i with
    | zero => exact fun _ => ⟨0, h.lat.ne, by intro x hx; omega⟩
    | succ i ih =>
      intro hi
      obtain ⟨t, ht, h1⟩ := ih (by omega)
      have hin : i < n := by omega
      refine ⟨mt n (Ytafkhhcnmmkieaa.du le) t i, h.du.mlt ht hin, all_lt_succ.2 ⟨fun x hx => ?_, h.du.m2 ht hin⟩⟩
      exact h.tr (by omega) ht (h.du.mlt ht hin) (h1 x hx) (h.du.m1 ht hin)
  obtain ⟨t, ht, h1⟩ := key n (by omega)
  exact ⟨t, ht, by simp, fun z hz _ => h1 z hz⟩

theorem glbEx {n : Nat} {le : Nat → Nat → Bool} (h : LatP n le) : ∀ S : List Nat, (∀ s ∈ S, s < n) → ∃ m, IsGlb n le S m
  | [], _ => topEx h
  | s :: S, hS => by
    obtain ⟨m, hm⟩ := glbEx h S fun x hx => hS x (by simp [hx])
    have hs := hS s (by simp)
    refine ⟨mt n le s m, h.mlt hs hm.lt, fun x hx => ?_, fun z hz hx => ?_⟩
    · rcases List.mem_cons.1 hx with rfl | hx'
      · exact h.m1 hs hm.lt
      · exact h.tr (h.mlt hs hm.lt) hm.lt (hS x hx) (h.m2 hs hm.lt) (hm.lo x hx')
    · exact h.mg hs hm.lt hz (hx s (by simp)) (hm.gr z hz fun x hx' => hx x (by simp [hx']))

theorem LatP.gbs {n : Nat} {le : Nat → Nat → Bool} (h : LatP n le) {S : List Nat} (hS : ∀ s ∈ S, s < n) : IsGlb n le S (gb n le S) := by
  obtain ⟨m, hm⟩ := glbEx h S hS
  unfold gb
  rw [bnd_of_glb h.ord hm]
  exact hm

theorem LatP.bnds {n : Nat} {le : Nat → Nat → Bool} (h : LatP n le) {S : List Nat} (hS : ∀ s ∈ S, s < n) : bnd n le S = ((gb n le S : Nat) : Int) := bnd_of_glb h.ord (h.gbs hS)

theorem gb_eq {n : Nat} {le : Nat → Nat → Bool} (h : LatP n le) {S : List Nat} {m : Nat} (hm : IsGlb n le S m) : gb n le S = m := by
  unfold gb; rw [bnd_of_glb h.ord hm]; rfl

theorem noneLt {n : Nat} : ∀ s ∈ ([] : List Nat), s < n := fun s hs => by cases hs

theorem lat1 (n : Nat) (le : Nat → Nat → Bool) : (lat n le).1 = mkT n le := rfl

theorem lat2 (n : Nat) (le : Nat → Nat → Bool) : (lat n le).2.1 = mkT n fun x y => ((mt n le x y : Nat) : Int) := rfl

theorem lat3 (n : Nat) (le : Nat → Nat → Bool) : (lat n le).2.2.1 = mkT n fun x y => ((mt n (du le) x y : Nat) : Int) := rfl

theorem l24Meet_eq {n : Nat} {le : Nat → Nat → Bool} (h : LatP n le) {x y : Nat} (hx : x < n) (hy : y < n) : zz16 (pos n le) (x : Int) (y : Int) = some (((mt n le x y : Nat) : Int), ()) := by
  have := h.le10
  unfold zz16 zz16_s
  rw [show ([(x : Int), (y : Int)] : List Int) = cs [x, y] from rfl, specBound_pos (by omega) (by simp [hx, hy]) (by simp), Option.bind_some, h.bnd2 hx hy]

theorem l24Join_eq {n : Nat} {le : Nat → Nat → Bool} (h : LatP n le) {x y : Nat} (hx : x < n) (hy : y < n) : zz15 (pos n le) (x : Int) (y : Int) = some (((mt n (du le) x y : Nat) : Int), ()) := by
  have := h.le10
  unfold zz15 zz15_s
  rw [specDual_pos (by omega), Option.bind_some, show ([(x : Int), (y : Int)] : List Int) = cs [x, y] from rfl, specBound_pos (by omega) (by simp [hx, hy]) (by simp), Option.bind_some, h.du.bnd2 hx hy]

theorem specBoundL {n : Nat} {le : Nat → Nat → Bool} (h : LatP n le) {S : List Nat} (hS : ∀ s ∈ S, s < n) (hl : S.length ≤ 4294967296) : zz13 big (pos n le) (cs S) = some (((gb n le S : Nat) : Int), ()) := by
  have := h.le10
  rw [specBound_pos (by omega) hS hl, h.bnds hS]

theorem specTop_eq {n : Nat} {le : Nat → Nat → Bool} (h : LatP n le) : zz20 (pos n le) = some (((gb n le [] : Nat) : Int), ()) := by
  unfold zz20 zz20_s
  rw [show ([] : List Int) = cs [] from rfl, specBoundL h noneLt (by simp)]; rfl

theorem specBottom_eq {n : Nat} {le : Nat → Nat → Bool} (h : LatP n le) : zz19 (pos n le) = some (((gb n (du le) [] : Nat) : Int), ()) := by
  have := h.le10
  unfold zz19 zz19_s
  rw [specDual_pos (by omega), Option.bind_some, show ([] : List Int) = cs [] from rfl, specBoundL h.du noneLt (by simp)]; rfl

theorem top_eq {n : Nat} {le : Nat → Nat → Bool} (h : LatP n le) : zz43 big (some (lat n le)) = some (((gb n le [] : Nat) : Int), ()) := by
  have h10 := h.le10
  unfold zz43 zz43_s
  rw [Option.bind_some, lat1, mkR_len]
  refine zz43_h3 n (fun i t => ∃ k : Nat, t = (k : Int) ∧ k < n ∧ ∀ x, x < i → le x k = true) (by omega) ?_ ?_ 0 (by omega) _ ⟨0, rfl, h.lat.ne, by intro x hx; omega⟩
  · intro rc i t hi hv ih
    obtain ⟨k, e, hk, h1⟩ := hv
    subst e
    unfold zz43_b3
    rw [cdt (by omega), Option.bind_some, lat3, atI_mkR hk, Option.bind_some, atI_mkR hi, Option.bind_some, wr1 (by omega)]
    refine ih _ ⟨mt n (Ytafkhhcnmmkieaa.du le) k i, rfl, h.du.mlt hk hi, all_lt_succ.2 ⟨fun x hx => ?_, h.du.m2 hk hi⟩⟩
    exact h.tr (by omega) hk (h.du.mlt hk hi) (h1 x hx) (h.du.m1 hk hi)
  · intro rc t hv
    obtain ⟨k, e, hk, h1⟩ := hv
    subst e
    unfold zz43_b3
    rw [cdf (by omega), zz43_a3, gb_eq h ⟨hk, by simp, fun z hz _ => h1 z hz⟩]

theorem bottom_eq {n : Nat} {le : Nat → Nat → Bool} (h : LatP n le) : zz42 big (some (lat n le)) = some (((gb n (du le) [] : Nat) : Int), ()) := by
  have h10 := h.le10
  unfold zz42 zz42_s
  rw [Option.bind_some, lat1, mkR_len]
  refine zz42_h3 n (fun i t => ∃ k : Nat, t = (k : Int) ∧ k < n ∧ ∀ x, x < i → le k x = true) (by omega) ?_ ?_ 0 (by omega) _ ⟨0, rfl, h.lat.ne, by intro x hx; omega⟩
  · intro rc i t hi hv ih
    obtain ⟨k, e, hk, h1⟩ := hv
    subst e
    unfold zz42_b3
    rw [cdt (by omega), Option.bind_some, lat2, atI_mkR hk, Option.bind_some, atI_mkR hi, Option.bind_some, wr1 (by omega)]
    refine ih _ ⟨mt n le k i, rfl, h.mlt hk hi, all_lt_succ.2 ⟨fun x hx => ?_, h.m2 hk hi⟩⟩
    exact h.tr (h.mlt hk hi) hk (by omega) (h.m1 hk hi) (h1 x hx)
  · intro rc t hv
    obtain ⟨k, e, hk, h1⟩ := hv
    subst e
    unfold zz42_b3
    rw [cdf (by omega), zz42_a3, gb_eq h.du ⟨hk, by simp, fun z hz _ => h1 z hz⟩]

theorem l2Elements_eq (n : Nat) (s : List Int) (hn : n ≤ 1099511627776) (hs : s.length ≤ 4294967296) : zz27 big (n : Int) s = some (s.all (inB n), ()) := by
  unfold zz27 zz27_s
  refine zz27_h2 s.length (fun i => (s.take i).all (inB n) = true) (by omega) ?_ ?_ 0 (by omega) rfl
  · intro rc i hi hv ih
    unfold zz27_b2
    have e : decide (0 ≤ s[i] ∧ s[i] ≤ (n : Int) - 1) = inB n s[i] := by
      unfold inB; exact decide_eq_decide.2 (by omega)
    rw [cdt (by omega), atI_lt s i hi, Option.bind_some, wr (n := (n : Int) - 1) (by omega) (by omega), l1In_eq, Option.bind_some, e, wr1 (by omega)]
    cases h : inB n s[i] with
    | true => exact ih (by rw [all_take hi, hv, h]; rfl)
    | false =>
      have : s.all (inB n) = false := List.all_eq_false.2 ⟨_, List.getElem_mem hi, by simp [h]⟩
      rw [this]; rfl
  · intro rc hv
    rw [List.take_length] at hv
    unfold zz27_b2
    rw [cdf (by omega), zz27_a2, hv]

theorem markIntSS_ok (a : List (List Int)) (k : Int) (h : a.length ≤ 1048576) (hx : ∀ x ∈ a, x.length ≤ 1048576) (hk : 0 ≤ k) (hk2 : k ≤ 9000000000000) : ∃ v j, zz66 big a k = some (j, (v, ())) ∧ 0 ≤ j ∧ j ≤ k + 1048576 * 1048576 := by
  unfold zz66 zz66_s
  suffices H : ∀ (n : Nat) (b : List (List Int)) (i : Nat) (k2 : Int), b.length = a.length → (∀ x ∈ b.drop i, x.length ≤ 1048576) → i ≤ a.length → a.length - i < n → 0 ≤ k2 → k2 ≤ k + i * 1048576 → ∃ v j, zz66_l2 big zz66_a2 n b k2 i = some (j, (v, ())) ∧ 0 ≤ j ∧ j ≤ k + 1048576 * 1048576 from by
    have := big_ge
    exact H big a 0 k rfl (by simpa using hx) (by omega) (by omega) hk (by omega)
  intro n
  induction n with
  | zero => intro b i k2 _ _ _ hn; omega
  | succ n ih =>
    intro b i k2 hbl hb hi hn hk0 hk3
    simp only [zz66_l2, zz66_b2]
    by_cases hlt : i < a.length
    · have hlb : i < b.length := by omega
      have hbi : b[i].length ≤ 1048576 := hb _ (by rw [List.drop_eq_getElem_cons hlb]; exact List.mem_cons_self)
      rw [cdt (by omega), atI_lt b i hlb, Option.bind_some, Int.toNat_natCast, List.getElem?_eq_getElem hlb, Option.bind_some, Option.bind_some, markIntS_eq2 _ k2 (by omega) hk0 (by omega), Option.bind_some, Option.bind_some, Option.bind_some, wr1 (by omega)]
      refine ih _ (i + 1) _ (by rw [List.length_set]; exact hbl) ?_ (by omega) (by omega) (by omega) (by omega)
      rw [List.drop_set, if_pos (by omega)]
      intro x hx'
      exact hb x (by rw [List.drop_eq_getElem_cons hlb]; exact List.mem_cons_of_mem _ hx')
    · rw [cdf (by omega)]
      exact ⟨b, k2, rfl, hk0, by omega⟩

theorem markPoset_ok {p : PT} (h : SmallP p) (k : Int) (hk : 0 ≤ k) (hk2 : k ≤ 1048576) : ∃ v j, zz67 p k = some (j, (v, ())) ∧ 0 ≤ j ∧ j ≤ 10995116277760 := by
  obtain ⟨v, j, h1, h2, h3⟩ := markIntSS_ok p.1 k h.1 h.2 hk (by omega)
  unfold zz67
  rw [h1]
  exact ⟨_, _, rfl, h2, by omega⟩

abbrev bt (n : Nat) (le : Nat → Nat → Bool) : Nat := gb n (du le) []

abbrev tp (n : Nat) (le : Nat → Nat → Bool) : Nat := gb n le []

def Dis (n : Nat) (le : Nat → Nat → Bool) : Prop := ∀ x y z, x < n → y < n → z < n → mt n le x (mt n (du le) y z) = mt n (du le) (mt n le x y) (mt n le x z)

theorem bt_lt {n : Nat} {le : Nat → Nat → Bool} (h : LatP n le) : bt n le < n := (h.du.gbs noneLt).lt

theorem tp_lt {n : Nat} {le : Nat → Nat → Bool} (h : LatP n le) : tp n le < n := (h.gbs noneLt).lt

theorem bt_le {n : Nat} {le : Nat → Nat → Bool} (h : LatP n le) {x : Nat} (hx : x < n) : le (bt n le) x = true := (h.du.gbs noneLt).gr x hx (by simp)

theorem le_tp {n : Nat} {le : Nat → Nat → Bool} (h : LatP n le) {x : Nat} (hx : x < n) : le x (tp n le) = true := (h.gbs noneLt).gr x hx (by simp)

theorem jlt {n : Nat} {le : Nat → Nat → Bool} (h : LatP n le) {x y : Nat} (hx : x < n) (hy : y < n) : mt n (du le) x y < n := h.du.mlt hx hy

theorem uneven_eq {n : Nat} {le : Nat → Nat → Bool} (h : LatP n le) : ∃ U, zz40 big (some (lat n le)) = some (U, ()) ∧ U.isNone = tv (Dis n le) := by
  have h10 := h.le10
  unfold zz40 zz40_s
  rw [Option.bind_some, lat1, mkR_len]
  refine zz40_q2 (Q := fun o => ∃ U, o = some (U, ()) ∧ U.isNone = tv (Dis n le)) n (fun i => ∀ x, x < i → ∀ y, y < n → ∀ z, z < n → mt n le x (mt n (du le) y z) = mt n (du le) (mt n le x y) (mt n le x z)) (by omega) ?_ ?_ 0 (by omega) (by intro x hx; omega)
  · intro rc i hi hv ih
    unfold zz40_b2
    rw [cdt (by omega), Option.bind_some, lat1, mkR_len]
    refine zz40_q5 (Q := fun o => ∃ U, o = some (U, ()) ∧ U.isNone = tv (Dis n le)) n (fun j => ∀ y, y < j → ∀ z, z < n → mt n le i (mt n (du le) y z) = mt n (du le) (mt n le i y) (mt n le i z)) (by omega) ?_ ?_ 0 (by omega) (by intro x hx; omega)
    · intro rc2 j hj hv2 ih2
      unfold zz40_b5
      rw [cdt (by omega), Option.bind_some, lat1, mkR_len]
      refine zz40_q8 (Q := fun o => ∃ U, o = some (U, ()) ∧ U.isNone = tv (Dis n le)) n (fun k => ∀ z, z < k → mt n le i (mt n (du le) j z) = mt n (du le) (mt n le i j) (mt n le i z)) (by omega) ?_ ?_ 0 (by omega) (by intro x hx; omega)
      · intro rc3 k hk hv3 ih3
        unfold zz40_b8
        simp only [cdt (show (k : Int) < (n : Int) by omega), Option.bind_some, lat2, lat3, atI_mkR hi, atI_mkR hj, atI_mkR hk, atI_mkR (jlt h hj hk), atI_mkR (h.mlt hi hj), atI_mkR (h.mlt hi hk), wr1 (show k ≤ 4611686018427387904 by omega)]
        by_cases e : mt n le i (mt n (du le) j k) = mt n (du le) (mt n le i j) (mt n le i k)
        · rw [cdf (by omega)]
          exact ih3 (all_lt_succ.2 ⟨hv3, e⟩)
        · rw [cdt (by omega)]
          exact ⟨_, rfl, by rw [tv_f fun hd => e (hd i j k hi hj hk)]; rfl⟩
      · intro rc3 hv3
        unfold zz40_b8
        rw [cdf (by omega), zz40_a8, wr1 (by omega)]
        exact ih2 (all_lt_succ.2 ⟨hv2, hv3⟩)
    · intro rc2 hv2
      unfold zz40_b5
      rw [cdf (by omega), zz40_a5, wr1 (by omega)]
      exact ih (all_lt_succ.2 ⟨hv, hv2⟩)
  · intro rc hv
    unfold zz40_b2
    rw [cdf (by omega), zz40_a2]
    exact ⟨none, rfl, by rw [tv_t (P := Dis n le) fun x y z hx hy hz => hv x hx y hy z hz]; rfl⟩

theorem apart_eq {n : Nat} {le : Nat → Nat → Bool} (h : LatP n le) : ∃ l b, zz17 big (pos n le) = some ((l, b, ()), ()) ∧ (!b) = tv (Dis n le) := by
  have h10 := h.le10
  unfold zz17 zz17_s
  rw [pos_len]
  refine zz17_q3 (Q := fun o => ∃ l b, o = some ((l, b, ()), ()) ∧ (!b) = tv (Dis n le)) n (fun i => ∀ x, x < i → ∀ y, y < n → ∀ z, z < n → mt n le x (mt n (du le) y z) = mt n (du le) (mt n le x y) (mt n le x z)) (by omega) ?_ ?_ 0 (by omega) (by intro x hx; omega)
  · intro rc i hi hv ih
    unfold zz17_b3
    rw [cdt (by omega)]
    refine zz17_q6 (Q := fun o => ∃ l b, o = some ((l, b, ()), ()) ∧ (!b) = tv (Dis n le)) n (fun j => ∀ y, y < j → ∀ z, z < n → mt n le i (mt n (du le) y z) = mt n (du le) (mt n le i y) (mt n le i z)) (by omega) ?_ ?_ 0 (by omega) (by intro x hx; omega)
    · intro rc2 j hj hv2 ih2
      unfold zz17_b6
      rw [cdt (by omega)]
      refine zz17_q9 (Q := fun o => ∃ l b, o = some ((l, b, ()), ()) ∧ (!b) = tv (Dis n le)) n (fun k => ∀ z, z < k → mt n le i (mt n (du le) j z) = mt n (du le) (mt n le i j) (mt n le i z)) (by omega) ?_ ?_ 0 (by omega) (by intro x hx; omega)
      · intro rc3 k hk hv3 ih3
        unfold zz17_b9
        simp only [cdt (show (k : Int) < (n : Int) by omega), l24Join_eq h hj hk, Option.bind_some, l24Meet_eq h hi (jlt h hj hk), l24Meet_eq h hi hj, l24Meet_eq h hi hk, l24Join_eq h (h.mlt hi hj) (h.mlt hi hk), wr1 (show k ≤ 4611686018427387904 by omega)]
        by_cases e : mt n le i (mt n (du le) j k) = mt n (du le) (mt n le i j) (mt n le i k)
        · rw [cdf (by omega)]
          exact ih3 (all_lt_succ.2 ⟨hv3, e⟩)
        · rw [cdt (by omega)]
          exact ⟨_, _, rfl, by rw [tv_f fun hd => e (hd i j k hi hj hk)]; rfl⟩
      · intro rc3 hv3
        unfold zz17_b9
        rw [cdf (by omega), zz17_a9, wr1 (by omega)]
        exact ih2 (all_lt_succ.2 ⟨hv2, hv3⟩)
    · intro rc2 hv2
      unfold zz17_b6
      rw [cdf (by omega), zz17_a6, wr1 (by omega)]
      exact ih (all_lt_succ.2 ⟨hv, hv2⟩)
  · intro rc hv
    unfold zz17_b3
    rw [cdf (by omega), zz17_a3]
    exact ⟨[], false, rfl, by rw [tv_t (P := Dis n le) fun x y z hx hy hz => hv x hx y hy z hz]; rfl⟩

def rel (n : Nat) (le : Nat → Nat → Bool) (x y z : Nat) : List Nat := fl n fun c => decide (mt n le c y = x) && decide (mt n (du le) c y = z)

def comp (n : Nat) (le : Nat → Nat → Bool) (x : Nat) : List Nat := rel n le (bt n le) x (tp n le)

theorem relative_eq {n : Nat} {le : Nat → Nat → Bool} (h : LatP n le) {x y z : Nat} (hy : y < n) : zz46 (some (lat n le)) (x : Int) (y : Int) (z : Int) = some (cs (rel n le x y z), ()) := by
  have h10 := h.le10
  unfold zz46 zz46_s
  rw [Option.bind_some, lat1, those_lattice_relative_c1 (mkR_len n _) (by omega) (P := fun c => decide (mt n le c y = x) && decide (mt n (du le) c y = z))]
  · rfl
  · intro i hi
    unfold zz44 zz44_s
    simp only [Option.bind_some, lat2, lat3, atI_mkR hi, atI_mkR hy]
    by_cases e : mt n le i y = x
    · rw [cdt (by omega), decide_eq_true e, Bool.true_and]
      congr 2
      exact decide_eq_decide.2 (by omega)
    · rw [cdf (by omega), decide_eq_false e, Bool.false_and]

theorem specRel_eq {n : Nat} {le : Nat → Nat → Bool} (h : LatP n le) {x y z : Nat} (hy : y < n) : zz21 big (pos n le) (x : Int) (y : Int) (z : Int) = some (cs (rel n le x y z), ()) := by
  have h10 := h.le10
  unfold zz21 zz21_s
  refine zz21_h3 n (fun i l => l = cs (fl i fun c => decide (mt n le c y = x) && decide (mt n (du le) c y = z))) (by omega) ?_ ?_ 0 (by omega) _ rfl
  · intro rc i l hi hv ih
    have hl := fl_len i fun c => decide (mt n le c y = x) && decide (mt n (du le) c y = z)
    unfold zz21_b3
    rw [pos_len, cdt (by omega), l24Meet_eq h hy hi, Option.bind_some, l24Join_eq h hy hi, Option.bind_some, mt_comm, mt_comm (le := du le), wr1 (by omega)]
    by_cases e : mt n le i y = x
    · rw [cdt (by omega)]
      by_cases e2 : mt n (du le) i y = z
      · rw [cdt (by omega), app1 (by rw [hv, cs_len]; omega), Option.bind_some]
        exact ih _ (by rw [hv]; exact fl_t (P := fun c => decide (mt n le c y = x) && decide (mt n (du le) c y = z)) (by simp [e, e2]))
      · rw [cdf (by omega)]
        exact ih _ (by rw [hv]; exact fl_f (P := fun c => decide (mt n le c y = x) && decide (mt n (du le) c y = z)) (by simp [e2]))
    · rw [cdf (by omega)]
      exact ih _ (by rw [hv]; exact fl_f (P := fun c => decide (mt n le c y = x) && decide (mt n (du le) c y = z)) (by simp [e]))
  · intro rc l hv
    unfold zz21_b3
    rw [pos_len, cdf (by omega), zz21_a3, hv]
    rfl

theorem complements_eq {n : Nat} {le : Nat → Nat → Bool} (h : LatP n le) {x : Nat} (hx : x < n) : zz47 (some (lat n le)) (x : Int) = some (cs (comp n le x), ()) := by
  unfold zz47 zz47_s
  rw [bottom_eq h, Option.bind_some, top_eq h, Option.bind_some, relative_eq h hx]; rfl

def Cmp (n : Nat) (le : Nat → Nat → Bool) : Prop := ∀ x, x < n → comp n le x ≠ []

theorem isCompl_eq {n : Nat} {le : Nat → Nat → Bool} (h : LatP n le) : zz51 (some (lat n le)) = some (tv (Cmp n le), ()) := by
  have h10 := h.le10
  unfold zz51 zz51_s zz50 zz50_s
  rw [Option.bind_some, lat1, those_lattice_isComplemented_c1 (mkR_len n _) (by omega) (P := fun x => decide ((comp n le x).length = 0))]
  · simp only [Option.bind_some, cs_len]
    congr 2
    symm
    refine tv_eq ?_
    rw [decide_eq_true_eq]
    constructor
    · intro e x hx hc
      have : x ∈ fl n fun x => decide ((comp n le x).length = 0) := fl_mem.2 ⟨hx, by simp [hc]⟩
      have := List.length_pos_of_mem this
      omega
    · intro hc
      have : (fl n fun x => decide ((comp n le x).length = 0)) = [] := List.eq_nil_iff_forall_not_mem.2 fun x hx => by
        have := fl_mem.1 hx
        exact hc x this.1 (List.eq_nil_of_length_eq_zero (by simpa using this.2))
      rw [this]; rfl
  · intro i hi
    unfold zz48 zz48_s
    rw [complements_eq h hi, Option.bind_some, cs_len]
    congr 2
    exact decide_eq_decide.2 (by omega)

theorem counts_eq {n : Nat} {le : Nat → Nat → Bool} (h : LatP n le) : zz22 big (pos n le) = some (mkR n fun x => ((comp n le x).length : Int), ()) := by
  have h10 := h.le10
  unfold zz22 zz22_s
  refine zz22_h3 n (fun i l => l = mkR i fun x => ((comp n le x).length : Int)) (by omega) ?_ ?_ 0 (by omega) _ rfl
  · intro rc i l hi hv ih
    unfold zz22_b3
    rw [pos_len, cdt (by omega), specBottom_eq h, Option.bind_some, specTop_eq h, Option.bind_some, specRel_eq h hi, Option.bind_some, app1 (by rw [hv, mkR_len]; omega), Option.bind_some, wr1 (by omega)]
    exact ih _ (by rw [hv, cs_len]; exact (mkR_succ i fun x => ((comp n le x).length : Int)).symm)
  · intro rc l hv
    unfold zz22_b3
    rw [pos_len, cdf (by omega), zz22_a3, hv]

structure BoolP (n : Nat) (le : Nat → Nat → Bool) : Prop where
  lp : LatP n le
  dis : Dis n le
  cmp : Cmp n le

theorem specGood29 {n : Nat} {le : Nat → Nat → Bool} (h : LatP n le) (hg : zz14 big (pos n le) = some (true, ())) : zz23 (pos n le) = some (tv (Dis n le ∧ Cmp n le), ()) := by
  have h10 := h.le10
  unfold zz23 zz23_s zz18 zz18_s
  obtain ⟨l, b, h1, h2⟩ := apart_eq h
  rw [hg, Option.bind_some, h1]
  simp only [Bool.not_true, cond_false, Option.bind_some, h2]
  by_cases hd : Dis n le
  · rw [tv_t hd, cond_true, counts_eq h, Option.bind_some, l1Has_eq _ _ (by rw [mkR_len]; omega), Option.bind_some]
    congr 2
    symm
    refine tv_eq ?_
    rw [Bool.not_eq_true', decide_eq_false_iff_not, mkR_mem]
    constructor
    · intro hc
      refine ⟨hd, fun x hx he => hc ⟨x, hx, by rw [he]; rfl⟩⟩
    · rintro ⟨_, hc⟩ ⟨x, hx, e⟩
      exact hc x hx (List.eq_nil_of_length_eq_zero (by omega))
  · rw [tv_f hd, tv_f fun hh => hd hh.1]; rfl

theorem implBool {n : Nat} {le : Nat → Nat → Bool} (h : LatP n le) (hg : zz39 (pos n le) = some ((some (lat n le), true, ()), ())) : zz52 (pos n le) = some ((some (lat n le), tv (Dis n le ∧ Cmp n le), ()), ()) := by
  unfold zz52 zz52_s zz41 zz41_s
  obtain ⟨U, h1, h2⟩ := uneven_eq h
  rw [hg, Option.bind_some]
  simp only [cond_true, h1, Option.bind_some, h2]
  by_cases hd : Dis n le
  · rw [tv_t hd, cond_true, isCompl_eq h, Option.bind_some, tv_congr (show Cmp n le ↔ Dis n le ∧ Cmp n le from ⟨fun hc => ⟨hd, hc⟩, fun hh => hh.2⟩)]
  · rw [tv_f hd, tv_f fun hh => hd hh.1]; rfl

theorem bool_cases {p : PT} (hx : ∀ r ∈ p.1, r.length ≤ 4294967296) : (∃ n le, p = pos n le ∧ BoolP n le ∧ zz23 p = some (true, ()) ∧ zz52 p = some ((some (lat n le), true, ()), ())) ∨
    (zz23 p = some (false, ()) ∧ ∃ l, zz52 p = some ((l, false, ()), ())) := by
  rcases lat_cases hx with ⟨n, le, e, h, h1, h2⟩ | ⟨h1, l, h2⟩
  · subst e
    have e1 := specGood29 h h1
    have e2 := implBool h h2
    by_cases hb : Dis n le ∧ Cmp n le
    · rw [tv_t hb] at e1 e2
      exact .inl ⟨n, le, rfl, ⟨h, hb.1, hb.2⟩, e1, e2⟩
    · rw [tv_f hb] at e1 e2
      exact .inr ⟨e1, _, e2⟩
  · refine .inr ⟨?_, l, ?_⟩
    · unfold zz23 zz23_s zz18 zz18_s
      rw [h1]; rfl
    · unfold zz52 zz52_s zz41 zz41_s
      rw [h2]; rfl

def cpl (n : Nat) (le : Nat → Nat → Bool) (x : Nat) : Nat := (comp n le x).headD 0

theorem cpl_get {n : Nat} {le : Nat → Nat → Bool} (hc : Cmp n le) {x : Nat} (hx : x < n) : ∃ h : 0 < (comp n le x).length, (comp n le x)[0] = cpl n le x := by
  have h0 : 0 < (comp n le x).length := List.length_pos_iff.2 (hc x hx)
  refine ⟨h0, ?_⟩
  unfold cpl
  rw [List.getElem_zero, List.headD_eq_head?_getD, List.head?_eq_some_head (List.ne_nil_of_length_pos h0)]
  rfl

theorem cpl_spec {n : Nat} {le : Nat → Nat → Bool} (hc : Cmp n le) {x : Nat} (hx : x < n) : cpl n le x < n ∧ mt n le (cpl n le x) x = bt n le ∧ mt n (du le) (cpl n le x) x = tp n le := by
  obtain ⟨h0, e⟩ := cpl_get hc hx
  have := List.getElem_mem h0
  rw [e] at this
  have := fl_mem.1 this
  simpa using this

theorem complList_eq {n : Nat} {le : Nat → Nat → Bool} (h : BoolP n le) : zz79 big (some (lat n le)) = some (mkR n fun x => ((cpl n le x : Nat) : Int), ()) := by
  have h10 := h.lp.le10
  unfold zz79 zz79_s
  rw [Option.bind_some, lat1, mkR_len]
  refine zz79_h3 n (fun i l => l = mkR i fun x => ((cpl n le x : Nat) : Int)) (by omega) ?_ ?_ 0 (by omega) _ rfl
  · intro rc i l hi hv ih
    obtain ⟨h0, e⟩ := cpl_get h.cmp hi
    have a1 := atI_cs h0
    have a2 := get_cs h0
    rw [e] at a1 a2
    unfold zz79_b3
    rw [cdt (by omega), complements_eq h.lp hi, Option.bind_some, show (0 : Int) = ((0 : Nat) : Int) from rfl, a1, Option.bind_some, Int.toNat_natCast, a2, Option.bind_some, app1 (by rw [hv, mkR_len]; omega), Option.bind_some, wr1 (by omega)]
    exact ih _ (by rw [hv]; exact (mkR_succ i fun x => ((cpl n le x : Nat) : Int)).symm)
  · intro rc l hv
    unfold zz79_b3
    rw [cdf (by omega), zz79_a3, hv]

theorem specCompl_eq {n : Nat} {le : Nat → Nat → Bool} (h : BoolP n le) : zz75 big (pos n le) = some (mkR n fun x => ((cpl n le x : Nat) : Int), ()) := by
  have h10 := h.lp.le10
  unfold zz75 zz75_s
  refine zz75_h3 n (fun i l => l = mkR i fun x => ((cpl n le x : Nat) : Int)) (by omega) ?_ ?_ 0 (by omega) _ rfl
  · intro rc i l hi hv ih
    obtain ⟨h0, e⟩ := cpl_get h.cmp hi
    have a1 := atI_cs h0
    have a2 := get_cs h0
    rw [e] at a1 a2
    unfold zz75_b3
    rw [pos_len, cdt (by omega), specBottom_eq h.lp, Option.bind_some, specTop_eq h.lp, Option.bind_some, specRel_eq h.lp hi, Option.bind_some]
    simp only [show (0 : Int) = ((0 : Nat) : Int) from rfl]
    rw [show atI (cs (rel n le (bt n le) i (tp n le))) ((0 : Nat) : Int) = _ from a1, Option.bind_some, Int.toNat_natCast, show (cs (rel n le (bt n le) i (tp n le)))[0]? = _ from a2, Option.bind_some, app1 (by rw [hv, mkR_len]; omega), Option.bind_some, wr1 (by omega)]
    exact ih _ (by rw [hv]; exact (mkR_succ i fun x => ((cpl n le x : Nat) : Int)).symm)
  · intro rc l hv
    unfold zz75_b3
    rw [pos_len, cdf (by omega), zz75_a3, hv]

theorem bool_contra {n : Nat} {le : Nat → Nat → Bool} (h : BoolP n le) {b c t : Nat} (hb : b < n) (hc : c < n) (ht : t < n) (h1 : le t c = true) (h2 : le t (cpl n le c) = true) : le t b = true := by
  obtain ⟨q1, q2, q3⟩ := cpl_spec h.cmp hc
  have := h.lp.mg q1 hc ht h2 h1
  rw [q2] at this
  exact h.lp.tr ht (bt_lt h.lp) hb this (bt_le h.lp hb)

def fst_ (n : Nat) (P : Nat → Bool) : Nat := (fl n P).headD 0

theorem fst_spec {n : Nat} {P : Nat → Bool} {w : Nat} (hw : w < n) (h : P w = true) : fst_ n P < n ∧ P (fst_ n P) = true ∧ (∀ i, i < fst_ n P → P i = false) ∧ fst_ n P ≤ w := by
  have hm : w ∈ fl n P := fl_mem.2 ⟨hw, h⟩
  have h0 : 0 < (fl n P).length := List.length_pos_of_mem hm
  have hf := fl_first h0
  have e : fst_ n P = (fl n P)[0] := by
    unfold fst_
    rw [List.getElem_zero, List.headD_eq_head?_getD, List.head?_eq_some_head (List.ne_nil_of_length_pos h0)]
    rfl
  rw [← e] at hf
  refine ⟨hf.2.1, hf.1, hf.2.2, ?_⟩
  rcases Nat.lt_or_ge w (fst_ n P) with hlt | hge
  · have := hf.2.2 w hlt
    rw [h] at this; cases this
  · exact hge

def atm (n : Nat) (le : Nat → Nat → Bool) : List Nat := fl n fun y => cov n le (bt n le) y

theorem upper_eq {n : Nat} {le : Nat → Nat → Bool} (hn : n ≤ 1048576) {x : Nat} (hx : x < n) : zz58 (mkT n le) (x : Int) = some (cs (fl n fun y => cov n le x y), ()) := by
  unfold zz58 zz58_s
  rw [those_order_upperCovers_c1 (mkR_len n _) hn (P := fun y => cov n le x y)]
  · rfl
  · intro i hi
    unfold zz56 zz56_s
    rw [covers_eq hn hx hi]; rfl

theorem atoms_eq {n : Nat} {le : Nat → Nat → Bool} (h : LatP n le) : zz59 (some (lat n le)) = some (cs (atm n le), ()) := by
  have h10 := h.le10
  unfold zz59 zz59_s
  rw [Option.bind_some, bottom_eq h, Option.bind_some, lat1, upper_eq (by omega) (bt_lt h)]; rfl

theorem specAtoms_eq {n : Nat} {le : Nat → Nat → Bool} (h : LatP n le) : zz26 big (pos n le) = some (cs (atm n le), ()) := by
  have h10 := h.le10
  unfold zz26 zz26_s
  rw [specBottom_eq h, Option.bind_some]
  refine zz26_h4 n (fun i l => l = cs (fl i fun y => cov n le (bt n le) y)) (by omega) ?_ ?_ 0 (by omega) _ rfl
  · intro rc i l hi hv ih
    have hl := fl_len i fun y => cov n le (bt n le) y
    unfold zz26_b4
    rw [pos_len, cdt (by omega), specCovers_eq (by omega) (bt_lt h) hi, Option.bind_some, wr1 (by omega)]
    cases hc : cov n le (bt n le) i with
    | true => rw [cond_true, app1 (by rw [hv, cs_len]; omega), Option.bind_some]; exact ih _ (by rw [hv]; exact fl_t (P := fun y => cov n le (bt n le) y) hc)
    | false => exact ih _ (by rw [hv]; exact fl_f (P := fun y => cov n le (bt n le) y) hc)
  · intro rc l hv
    unfold zz26_b4
    rw [pos_len, cdf (by omega), zz26_a4, hv]
    rfl

theorem getD_get {S : List Nat} {k : Nat} (h : k < S.length) : S.getD k 0 = S[k] := by rw [List.getD_eq_getElem?_getD, List.getElem?_eq_getElem h]; rfl

theorem fl_lt {n : Nat} {P Q : Nat → Bool} (h : ∀ x, x < n → P x = true → Q x = true) {y : Nat} (hy : y < n) (h1 : Q y = true) (h2 : P y = false) : (fl n P).length < (fl n Q).length := by
  have hm : (fl n P).Sublist (fl n Q) := by
    have e : fl n P = (fl n Q).filter P := by
      unfold fl
      rw [List.filter_filter]
      refine List.filter_congr fun x hx => ?_
      have := h x (List.mem_range.1 hx)
      cases hp : P x with
      | true => simp [this hp]
      | false => simp
    rw [e]; exact List.filter_sublist
  refine Nat.lt_of_le_of_ne hm.length_le fun e => ?_
  have := hm.eq_of_length e
  have hq := fl_inj this hy
  rw [h1, h2] at hq
  exact absurd hq (by simp)

theorem ls_tr {n : Nat} {le : Nat → Nat → Bool} (h : LatP n le) {x y z : Nat} (hx : x < n) (hy : y < n) (hz : z < n) (h1 : ls le x y = true) (h2 : ls le y z = true) : ls le x z = true := by
  unfold ls at *
  simp only [Bool.and_eq_true, decide_eq_true_eq] at *
  refine ⟨fun e => ?_, h.ord.trans x y z hx hy hz h1.2 h2.2⟩
  subst e
  have := h.ord.anti x y hx hy h1.1 h1.2; rw [h2.2] at this; exact absurd this (by simp)

theorem ls_irr {le : Nat → Nat → Bool} {x : Nat} : ls le x x = false := by unfold ls; simp

theorem cov_ls {n : Nat} {le : Nat → Nat → Bool} {x y : Nat} (h : cov n le x y = true) : ls le x y = true := by
  unfold cov at h
  exact (Bool.and_eq_true_iff.1 h).1

theorem map_take {α β : Type} {f : α → β} {l : List α} {i : Nat} (h : i < l.length) : (l.take (i + 1)).map f = (l.take i).map f ++ [f l[i]] := by
  rw [List.take_succ_eq_append_getElem h, List.map_append, List.map_cons, List.map_nil]

theorem atI_csD {S : List Nat} {i : Nat} (h : i < S.length) : atI (cs S) (i : Int) = some ((S.getD i 0 : Nat) : Int) := by rw [atI_cs h, getD_get h]

theorem get_csD {S : List Nat} {i : Nat} (h : i < S.length) : (cs S)[i]? = some ((S.getD i 0 : Nat) : Int) := by rw [get_cs h, getD_get h]

theorem getD_mem {S : List Nat} {i : Nat} (h : i < S.length) : S.getD i 0 ∈ S := by rw [getD_get h]; exact List.getElem_mem h

theorem mt_self {n : Nat} {le : Nat → Nat → Bool} (h : LatP n le) {x : Nat} (hx : x < n) : mt n le x x = x := by unfold mt; rw [bnd_self h.ord hx]; rfl

theorem twoBool_eq {p q : PT} {l m : Option (List (List Bool) × List (List Int) × List (List Int) × Unit)} {a b : Bool} (h1 : zz52 p = some ((l, a, ()), ())) (h2 : zz52 q = some ((m, b, ()), ())) : zz53 p q = some ((l, m, a && b, ()), ()) := by
  unfold zz53 zz53_s
  rw [h1, h2]
  cases a <;> rfl

def jnf (m : Nat) (le' : Nat → Nat → Bool) (S : List Nat) : Nat := S.foldl (fun j x => mt m (du le') j x) (bt m le')

theorem jnf_snoc (m : Nat) (le' : Nat → Nat → Bool) (S : List Nat) (x : Nat) : jnf m le' (S ++ [x]) = mt m (du le') (jnf m le' S) x := by unfold jnf; rw [List.foldl_append]; rfl

theorem jnf_lt {m : Nat} {le' : Nat → Nat → Bool} (h : LatP m le') {S : List Nat} (hS : ∀ s ∈ S, s < m) : jnf m le' S < m := by
  suffices hh : ∀ (S : List Nat) (j : Nat), j < m → (∀ s ∈ S, s < m) → S.foldl (fun j x => mt m (du le') j x) j < m from hh S _ (bt_lt h) hS
  intro S
  induction S with
  | nil => intro j hj _; exact hj
  | cons s S ih => intro j hj hS; exact ih _ (jlt h hj (hS s List.mem_cons_self)) fun t ht => hS t (List.mem_cons_of_mem _ ht)

theorem joinAll_eq {m : Nat} {le' : Nat → Nat → Bool} (h : LatP m le') {S : List Nat} (hS : ∀ s ∈ S, s < m) (hl : S.length ≤ 4294967296) : zz60 big (some (lat m le')) (cs S) = some ((jnf m le' S : Int), ()) := by
  unfold zz60 zz60_s
  rw [bottom_eq h, Option.bind_some, cs_len]
  refine zz60_h3 S.length (fun i j => j = ((jnf m le' (S.take i) : Nat) : Int)) (by omega) ?_ ?_ 0 (by omega) _ rfl
  · intro rc i j hi hj ih
    have l1 := jnf_lt h (S := S.take i) fun s hs => hS s (List.mem_of_mem_take hs)
    have l2 := hS _ (List.getElem_mem hi)
    unfold zz60_b3
    simp only [cdt (show (i : Int) < (S.length : Int) by omega), atI_cs hi, Option.bind_some, lat3, hj, atI_mkR l1, atI_mkR l2, wr1 (show i ≤ 4611686018427387904 by omega)]
    exact ih _ (by rw [List.take_succ_eq_append_getElem hi, jnf_snoc])
  · intro rc j hj
    rw [List.take_length] at hj
    unfold zz60_b3
    rw [cdf (by omega), zz60_a3, hj]

def sel (le : Nat → Nat → Bool) (A G B : List Nat) (x : Nat) : Nat → List Nat
  | 0 => []
  | k + 1 => if le (A.getD (G.getD k 0) 0) x then sel le A G B x k ++ [B.getD k 0] else sel le A G B x k

theorem sel_len (le : Nat → Nat → Bool) (A G B : List Nat) (x : Nat) : ∀ k, (sel le A G B x k).length ≤ k
  | 0 => by simp [sel]
  | k + 1 => by
    have := sel_len le A G B x k
    unfold sel; split
    · rw [List.length_append]; simp; omega
    · omega

theorem sel_lt {m : Nat} {le : Nat → Nat → Bool} {A G B : List Nat} {x : Nat} (hB : ∀ b ∈ B, b < m) : ∀ k, k ≤ B.length → ∀ s ∈ sel le A G B x k, s < m
  | 0, _, s, h => by simp [sel] at h
  | k + 1, hk, s, h => by
    unfold sel at h
    split at h
    · rcases List.mem_append.1 h with h | h
      · exact sel_lt hB k (by omega) s h
      · rw [List.mem_singleton] at h; subst h; exact hB _ (getD_mem (by omega))
    · exact sel_lt hB k (by omega) s h

def bmv (m : Nat) (le le' : Nat → Nat → Bool) (A G B : List Nat) (x : Nat) : Nat := jnf m le' (sel le A G B x B.length)

theorem atm_lt {n : Nat} {le : Nat → Nat → Bool} : ∀ x ∈ atm n le, x < n := fun x hx => (fl_mem.1 hx).1

theorem atm_len (n : Nat) (le : Nat → Nat → Bool) : (atm n le).length ≤ n := fl_len _ _

theorem boolMap_impl {n m : Nat} {le le' : Nat → Nat → Bool} (h : BoolP n le) (h' : BoolP m le') {A G B : List Nat} (hAl : A.length ≤ 10) (hB : ∀ b ∈ B, b < m) (hBl : B.length ≤ 10) (hA : ∀ a ∈ A, a < n) (hG : ∀ g ∈ G, g < A.length) (hgl : G.length = B.length) :
    zz61_F7 big (cs G) (some (lat n le)) (some (lat m le')) (cs A) (cs B) [] (n : Int) 0 = some ((mkR n fun x => ((bmv m le le' A G B x : Nat) : Int), true, ()), ()) := by
  have h10 := h.lp.le10
  refine zz61_h7 n (fun i l => l = mkR i fun x => ((bmv m le le' A G B x : Nat) : Int)) (by omega) ?_ ?_ 0 (by omega) _ rfl
  · intro rc i l hi hv ih
    unfold zz61_b7
    rw [cdt (by omega), cs_len]
    refine zz61_h11 B.length (fun k s => s = cs (sel le A G B i k)) (by omega) ?_ ?_ 0 (by omega) _ rfl
    · intro rc2 k s hk hs ih2
      have hkG : k < G.length := by omega
      have l1 := hG _ (getD_mem hkG)
      have l2 := hA _ (getD_mem l1)
      have l3 := sel_len le A G B i k
      unfold zz61_b11
      simp only [cdt (show (k : Int) < (B.length : Int) by omega), atI_csD hk, Int.toNat_natCast, get_csD hk, Option.bind_some, lat1, atI_csD hkG, atI_csD l1, get_csD l1, atI_mkR l2, atI_mkR hi, wr1 (show k ≤ 4611686018427387904 by omega)]
      cases hc : le (A.getD (G.getD k 0) 0) i with
      | true =>
        rw [cond_true, app1 (by rw [hs, cs_len]; omega), Option.bind_some]
        refine ih2 _ ?_
        rw [hs, sel, if_pos hc, cs_append]; rfl
      | false => exact ih2 _ (by rw [hs, sel, if_neg (ne_true_of_eq_false hc)])
    · intro rc2 s hs
      unfold zz61_b11
      rw [cdf (by omega), zz61_a11, hs, joinAll_eq h'.lp (sel_lt hB _ (by omega)) (by have := sel_len le A G B i B.length; omega), Option.bind_some, app1 (by rw [hv, mkR_len]; omega), Option.bind_some, wr1 (by omega)]
      exact ih _ (by rw [hv, mkR_succ]; rfl)
  · intro rc l hv
    unfold zz61_b7
    rw [cdf (by omega), zz61_a7, hv]

theorem boolMap_spec {n m : Nat} {le le' : Nat → Nat → Bool} (h : BoolP n le) (h' : BoolP m le') {A G B : List Nat} (hAl : A.length ≤ 10) (hB : ∀ b ∈ B, b < m) (hBl : B.length ≤ 10) (hA : ∀ a ∈ A, a < n) (hG : ∀ g ∈ G, g < A.length) (hgl : G.length = B.length) :
    zz28_F8 big (cs G) (pos n le) (pos m le') [] (cs B) (cs A) 0 = some ((mkR n fun x => ((bmv m le le' A G B x : Nat) : Int), true, ()), ()) := by
  have h10 := h.lp.le10
  refine zz28_h8 n (fun i l => l = mkR i fun x => ((bmv m le le' A G B x : Nat) : Int)) (by omega) ?_ ?_ 0 (by omega) _ rfl
  · intro rc i l hi hv ih
    unfold zz28_b8
    rw [pos_len, cdt (by omega), specBottom_eq h'.lp, Option.bind_some]
    refine zz28_h12 B.length (fun k j => j = ((jnf m le' (sel le A G B i k) : Nat) : Int)) (by omega) ?_ ?_ 0 (by omega) _ rfl
    · intro rc2 k j hk hj ih2
      have hkG : k < G.length := by omega
      have l1 := hG _ (getD_mem hkG)
      have l2 := hA _ (getD_mem l1)
      have l3 := sel_len le A G B i k
      have l4 := jnf_lt h'.lp (sel_lt (le := le) (A := A) (G := G) (x := i) hB k (by omega))
      have l5 := hB _ (getD_mem hk)
      unfold zz28_b12
      simp only [cs_len, cdt (show (k : Int) < (G.length : Int) by omega), atI_csD hk, Int.toNat_natCast, get_csD hk, Option.bind_some, atI_csD hkG, atI_csD l1, get_csD l1, l23Leq_pos (le := le) (show n ≤ 4294967296 by omega) l2 hi, hj, l24Join_eq h'.lp l4 l5, wr1 (show k ≤ 4611686018427387904 by omega)]
      cases hc : le (A.getD (G.getD k 0) 0) i with
      | true => exact ih2 _ (by rw [sel, if_pos hc, jnf_snoc])
      | false => exact ih2 _ (by rw [sel, if_neg (ne_true_of_eq_false hc)])
    · intro rc2 j hj
      unfold zz28_b12
      rw [cs_len, cdf (by omega), zz28_a12, hj, app1 (by rw [hv, mkR_len]; omega), Option.bind_some, wr1 (by omega)]
      exact ih _ (by rw [hv, mkR_succ]; rfl)
  · intro rc l hv
    unfold zz28_b8
    rw [pos_len, cdf (by omega), zz28_a8, hv]

theorem boolMap_eq (p q : PT) (g : List Int) (hp : ∀ r ∈ p.1, r.length ≤ 4294967296) (hq : ∀ r ∈ q.1, r.length ≤ 4294967296) (hg : g.length ≤ 1048576) :
    ∃ v : List Int × Bool × Unit, zz28 big p q g = some (v, ()) ∧ zz61 big p q g = some (v, ()) ∧ v.1.length ≤ 10 := by
  unfold zz28 zz28_s zz61 zz61_s
  rcases bool_cases hp with ⟨n, le, e, h, h1, h2⟩ | ⟨h1, l, h2⟩
  · rcases bool_cases hq with ⟨m, le', e', h', h1', h2'⟩ | ⟨h1', l', h2'⟩
    · rw [h1, h1', twoBool_eq h2 h2']
      subst e; subst e'
      have h10 := h.lp.le10
      have h10' := h'.lp.le10
      have hAl := atm_len n le
      have hBl := atm_len m le'
      simp only [Option.bind_some, Bool.and_self, Bool.not_true, cond_false, atoms_eq h.lp, atoms_eq h'.lp, specAtoms_eq h.lp, specAtoms_eq h'.lp, cs_len]
      by_cases hgl : g.length = (atm m le').length
      · simp only [cdf (show ¬ (g.length : Int) ≠ ((atm m le').length : Int) by omega), l2Elements_eq (atm n le).length g (show (atm n le).length ≤ 1099511627776 by omega) (show g.length ≤ 4294967296 by omega), inSize_eq (atm n le).length g (show g.length ≤ 1099511627775 by omega), Option.bind_some]
        cases hga : g.all (inB (atm n le).length) with
        | false => exact ⟨_, rfl, rfl, by simp⟩
        | true =>
          obtain ⟨G, e1, hG⟩ := allB_form hga
          subst e1
          rw [cs_len] at hgl
          simp only [Bool.not_true, cond_false, lat1, mkR_len, boolMap_impl h h' (show (atm n le).length ≤ 10 by omega) atm_lt (show (atm m le').length ≤ 10 by omega) atm_lt hG hgl, boolMap_spec h h' (show (atm n le).length ≤ 10 by omega) atm_lt (show (atm m le').length ≤ 10 by omega) atm_lt hG hgl]
          exact ⟨_, rfl, rfl, by simp only [mkR_len]; omega⟩
      · simp only [cdt (show (g.length : Int) ≠ ((atm m le').length : Int) by omega)]
        exact ⟨_, rfl, rfl, by simp⟩
    · rw [h1, h1', twoBool_eq h2 h2']
      exact ⟨_, rfl, rfl, by simp⟩
  · rcases bool_cases hq with ⟨m, le', e', h', h1', h2'⟩ | ⟨h1', l', h2'⟩
    · rw [h1, twoBool_eq h2 h2']
      exact ⟨_, rfl, rfl, by simp⟩
    · rw [h1, twoBool_eq h2 h2']
      exact ⟨_, rfl, rfl, by simp⟩

theorem markPoset_ok2 {p : PT} (h : SmallP p) (k : Int) (hk : 0 ≤ k) (hk2 : k ≤ 5000000000000) : ∃ v j, zz67 p k = some (j, (v, ())) ∧ 0 ≤ j ∧ j ≤ k + 1048576 * 1048576 := by
  obtain ⟨v, j, h1, h2, h3⟩ := markIntSS_ok p.1 k h.1 h.2 hk (by omega)
  unfold zz67
  rw [h1]
  exact ⟨_, _, rfl, h2, by omega⟩

theorem true_BooleanMapOf (p q : PT) (g : List Int) (hw : Wf (.pair (.pair (.sl (.sl I)) .unit) (.pair (.pair (.sl (.sl I)) .unit) (.pair (.sl I) .unit))) (p, q, g, ())) : laws_FnExactBooleanMapOf p q g = some (true, ()) := by
  unfold laws_FnExactBooleanMapOf laws_FnExactBooleanMapOf_s
  by_cases hl : g.length ≤ 1048576
  · obtain ⟨v, hv, hv1, hv2⟩ := szPoset_eq p 1048576 hw.1 (by omega) (by omega)
    rw [cdf (by omega), hv, Option.bind_some]
    by_cases h : v < 0
    · rw [cdt h]
    · have hs := hv2 (by omega)
      obtain ⟨u, hu, hu1, hu2⟩ := szPoset_eq q v hw.2.1 (by omega) (by omega)
      rw [cdf h, hu, Option.bind_some]
      by_cases h3 : u < 0
      · rw [cdt h3]
      · have hs2 := hu2 (by omega)
        obtain ⟨r, h1, h2, h3⟩ := boolMap_eq p q g hs.rows hs2.rows hl
        obtain ⟨m, j, hm, hj, hj2⟩ := markPoset_ok2 hs 1 (by omega) (by omega)
        obtain ⟨m', j', hm', hj', hj2'⟩ := markPoset_ok2 hs2 j hj (by omega)
        simp only [cdf (show ¬ u < 0 by omega), toPoset_eq hs, toPoset_eq hs2, toIntS_eq g (show g.length ≤ 4294967296 by omega), Option.bind_some, h1, h2, eqPoset_eq hs, eqPoset_eq hs2, eqIntS_eq g g (show g.length ≤ 1099511627775 by omega), eqIntS_eq r.1 r.1 (show r.1.length ≤ 1099511627775 by omega),
          hm, hm', markIntS_eq2 g j' (show g.length ≤ 1099511627775 by omega) hj' (show j' ≤ 10995116277760 by omega), markIntS_eq2 r.1 1 (show r.1.length ≤ 1099511627775 by omega) (show (0 : Int) ≤ 1 by omega) (show (1 : Int) ≤ 10995116277760 by omega), heldIntS_eq 1 r.1.length (show r.1.length ≤ 1099511627775 by omega) (show (0 : Int) ≤ 1 by omega) (show (1 : Int) ≤ 1099511627776 by omega)]
        simp
        repeat rw [cdf (by omega)]
  · rw [cdt (by omega)]

def LMc (n m : Nat) (le le' : Nat → Nat → Bool) (F : List Nat) (x y : Nat) : Prop := F.getD (mt n le x y) 0 = mt m le' (F.getD x 0) (F.getD y 0) ∧ F.getD (mt n (du le) x y) 0 = mt m (du le') (F.getD x 0) (F.getD y 0)

structure LMp (n m : Nat) (le le' : Nat → Nat → Bool) (F : List Nat) : Prop where
  bot : F.getD (bt n le) 0 = bt m le'
  top : F.getD (tp n le) 0 = tp m le'
  maps : ∀ x y, x < n → y < n → LMc n m le le' F x y

theorem LMc_comm {n m : Nat} {le le' : Nat → Nat → Bool} {F : List Nat} {x y : Nat} (h : LMc n m le le' F x y) : LMc n m le le' F y x := by
  unfold LMc at *
  rw [mt_comm (n := n) (le := le) y x, mt_comm (n := n) (le := du le) y x, mt_comm (n := m) (le := le') _ (F.getD x 0), mt_comm (n := m) (le := du le') _ (F.getD x 0)]
  exact h

theorem LMc_self {n m : Nat} {le le' : Nat → Nat → Bool} (h : LatP n le) (h' : LatP m le') {F : List Nat} {x : Nat} (hx : x < n) (hF : F.getD x 0 < m) : LMc n m le le' F x x := by
  unfold LMc
  rw [mt_self h hx, mt_self h.du hx, mt_self h' hF, mt_self h'.du hF]
  exact ⟨rfl, rfl⟩

theorem LM_tri {n m : Nat} {le le' : Nat → Nat → Bool} (h : LatP n le) (h' : LatP m le') {F : List Nat} (hl : F.length = n) (hF : ∀ x ∈ F, x < m) : (∀ x y, x < n → y < x → LMc n m le le' F x y) ↔ ∀ x y, x < n → y < n → LMc n m le le' F x y := by
  constructor
  · intro hh x y hx hy
    rcases Nat.lt_trichotomy x y with c | c | c
    · exact LMc_comm (hh y x hy c)
    · subst c; exact LMc_self h h' hx (hF _ (getD_mem (by omega)))
    · exact hh x y hx c
  · intro hh x y hx hy
    exact hh x y hx (by omega)

theorem lmap_impl {n m : Nat} {le le' : Nat → Nat → Bool} (h : LatP n le) (h' : LatP m le') {F : List Nat} (hl : F.length = n) (hF : ∀ x ∈ F, x < m) (hhas : (cs F).all (inB m) = true) : zz72 big (some (lat n le)) (some (lat m le')) (cs F) = some (tv (LMp n m le le' F), ()) := by
  have h10 := h.le10
  have b1 : bt n le < F.length := by rw [hl]; exact bt_lt h
  have b2 : tp n le < F.length := by rw [hl]; exact tp_lt h
  unfold zz72 zz72_s
  simp only [Option.bind_some, lat1, mkR_len, cs_len, cdf (show ¬ (F.length : Int) ≠ (n : Int) by omega), has_eq (cs F) (show (cs F).length ≤ 4294967296 by rw [cs_len]; omega), hhas, Bool.not_true, cond_false, bottom_eq h, bottom_eq h', top_eq h, top_eq h', atI_csD b1, atI_csD b2]
  by_cases e1 : F.getD (bt n le) 0 = bt m le'
  · rw [cdf (by simp only [e1, ne_eq, not_true_eq_false, not_false_eq_true])]
    by_cases e2 : F.getD (tp n le) 0 = tp m le'
    · rw [cdf (by simp only [e2, ne_eq, not_true_eq_false, not_false_eq_true])]
      refine zz72_h4 n (fun i => ∀ x, x < i → ∀ y, y < n → LMc n m le le' F x y) (by omega) ?_ ?_ 0 (by omega) (by intro x hx; omega)
      · intro rc i hi hv ih
        unfold zz72_b4
        rw [cs_len, hl, cdt (by omega)]
        refine zz72_h7 n (fun j => ∀ y, y < j → LMc n m le le' F i y) (by omega) ?_ ?_ 0 (by omega) (by intro x hx; omega)
        · intro rc2 j hj hv2 ih2
          have l1 : mt n le i j < F.length := by rw [hl]; exact h.mlt hi hj
          have l2 : mt n (du le) i j < F.length := by rw [hl]; exact jlt h hi hj
          have l3 : i < F.length := by omega
          have l4 : j < F.length := by omega
          have l5 := hF _ (getD_mem l3)
          have l6 := hF _ (getD_mem l4)
          unfold zz72_b7
          simp only [cdt (show (j : Int) < (n : Int) by omega), Option.bind_some, lat2, lat3, atI_mkR hi, atI_mkR hj, atI_csD l1, atI_csD l2, atI_csD l3, atI_csD l4, atI_mkR l5, atI_mkR l6, wr1 (show j ≤ 4611686018427387904 by omega)]
          by_cases c1 : F.getD (mt n le i j) 0 = mt m le' (F.getD i 0) (F.getD j 0)
          · rw [cdf (by simp only [c1, ne_eq, not_true_eq_false, not_false_eq_true])]
            by_cases c2 : F.getD (mt n (du le) i j) 0 = mt m (du le') (F.getD i 0) (F.getD j 0)
            · rw [cdf (by simp only [c2, ne_eq, not_true_eq_false, not_false_eq_true])]
              exact ih2 (all_lt_succ.2 ⟨hv2, c1, c2⟩)
            · rw [cdt (show ((_ : Nat) : Int) ≠ ((_ : Nat) : Int) from fun c => c2 (Int.ofNat.inj c)), tv_f fun hh => c2 (hh.maps i j hi hj).2]
          · rw [cdt (show ((_ : Nat) : Int) ≠ ((_ : Nat) : Int) from fun c => c1 (Int.ofNat.inj c)), tv_f fun hh => c1 (hh.maps i j hi hj).1]
        · intro rc2 hv2
          unfold zz72_b7
          rw [cdf (by omega), zz72_a7, wr1 (by omega)]
          have ih' := ih (all_lt_succ.2 ⟨hv, hv2⟩)
          rw [hl] at ih'
          exact ih'
      · intro rc hv
        unfold zz72_b4
        rw [cdf (by omega), zz72_a4, tv_t ⟨e1, e2, fun x y hx hy => hv x hx y hy⟩]
    · rw [cdt (show ((_ : Nat) : Int) ≠ ((_ : Nat) : Int) from fun c => e2 (Int.ofNat.inj c)), tv_f fun hh => e2 hh.top]
  · rw [cdt (show ((_ : Nat) : Int) ≠ ((_ : Nat) : Int) from fun c => e1 (Int.ofNat.inj c)), tv_f fun hh => e1 hh.bot]

theorem lmap_spec {n m : Nat} {le le' : Nat → Nat → Bool} (h : LatP n le) (h' : LatP m le') {F : List Nat} (hl : F.length = n) (hF : ∀ x ∈ F, x < m) (hhas : (cs F).all (inB m) = true) : zz69 big (pos n le) (pos m le') (cs F) = some (tv (LMp n m le le' F), ()) := by
  have h10 := h.le10
  have h10' := h'.le10
  have b1 : bt n le < F.length := by rw [hl]; exact bt_lt h
  have b2 : tp n le < F.length := by rw [hl]; exact tp_lt h
  unfold zz69 zz69_s
  simp only [Option.bind_some, pos_len, cs_len, cdf (show ¬ (F.length : Int) ≠ (n : Int) by omega), l2Elements_eq m (cs F) (show m ≤ 1099511627776 by omega) (show (cs F).length ≤ 4294967296 by rw [cs_len]; omega), hhas, Bool.not_true, cond_false, specBottom_eq h, specBottom_eq h', specTop_eq h, specTop_eq h', atI_csD b1, atI_csD b2]
  by_cases e1 : F.getD (bt n le) 0 = bt m le'
  · rw [cdf (by simp only [e1, ne_eq, not_true_eq_false, not_false_eq_true])]
    by_cases e2 : F.getD (tp n le) 0 = tp m le'
    · rw [cdf (by simp only [e2, ne_eq, not_true_eq_false, not_false_eq_true])]
      refine zz69_h4 n (fun i => ∀ x, x < i → ∀ y, y < x → LMc n m le le' F x y) (by omega) ?_ ?_ 0 (by omega) (by intro x hx; omega)
      · intro rc i hi hv ih
        unfold zz69_b4
        rw [cs_len, cdt (by omega)]
        refine zz69_h7 i (fun j => ∀ y, y < j → LMc n m le le' F i y) (by omega) ?_ ?_ 0 (by omega) (by intro x hx; omega)
        · intro rc2 j hj hv2 ih2
          have hjn : j < n := by omega
          have l1 : mt n le i j < F.length := by rw [hl]; exact h.mlt hi hjn
          have l2 : mt n (du le) i j < F.length := by rw [hl]; exact jlt h hi hjn
          have l3 : i < F.length := by omega
          have l4 : j < F.length := by omega
          have l5 := hF _ (getD_mem l3)
          have l6 := hF _ (getD_mem l4)
          unfold zz69_b7
          simp only [cdt (show (j : Int) < (i : Int) by omega), Option.bind_some, l24Meet_eq h hi hjn, l24Join_eq h hi hjn, atI_csD l1, atI_csD l2, atI_csD l3, atI_csD l4, l24Meet_eq h' l5 l6, l24Join_eq h' l5 l6, wr1 (show j ≤ 4611686018427387904 by omega)]
          by_cases c1 : F.getD (mt n le i j) 0 = mt m le' (F.getD i 0) (F.getD j 0)
          · rw [cdf (by simp only [c1, ne_eq, not_true_eq_false, not_false_eq_true])]
            by_cases c2 : F.getD (mt n (du le) i j) 0 = mt m (du le') (F.getD i 0) (F.getD j 0)
            · rw [cdf (by simp only [c2, ne_eq, not_true_eq_false, not_false_eq_true])]
              exact ih2 (all_lt_succ.2 ⟨hv2, c1, c2⟩)
            · rw [cdt (show ((_ : Nat) : Int) ≠ ((_ : Nat) : Int) from fun c => c2 (Int.ofNat.inj c)), tv_f fun hh => c2 (hh.maps i j hi hjn).2]
          · rw [cdt (show ((_ : Nat) : Int) ≠ ((_ : Nat) : Int) from fun c => c1 (Int.ofNat.inj c)), tv_f fun hh => c1 (hh.maps i j hi hjn).1]
        · intro rc2 hv2
          unfold zz69_b7
          rw [cdf (by omega), zz69_a7, wr1 (by omega)]
          exact ih (all_lt_succ.2 ⟨hv, hv2⟩)
      · intro rc hv
        unfold zz69_b4
        rw [cs_len, cdf (by omega), zz69_a4, tv_t (P := LMp n m le le' F) ⟨e1, e2, (LM_tri h h' hl hF).1 fun x y hx hy => hv x hx y hy⟩]
    · rw [cdt (show ((_ : Nat) : Int) ≠ ((_ : Nat) : Int) from fun c => e2 (Int.ofNat.inj c)), tv_f fun hh => e2 hh.top]
  · rw [cdt (show ((_ : Nat) : Int) ≠ ((_ : Nat) : Int) from fun c => e1 (Int.ofNat.inj c)), tv_f fun hh => e1 hh.bot]

theorem atom_prime {m : Nat} {le' : Nat → Nat → Bool} (h : BoolP m le') {a y z : Nat} (ha : a < m) (hy : y < m) (hz : z < m) (hc : cov m le' (bt m le') a = true) (hj : le' a (mt m (du le') y z) = true) : le' a y = true ∨ le' a z = true := by
  have L := h.lp
  have hls := cov_ls hc
  have key : ∀ w, w < m → le' a w = true ∨ mt m le' a w = bt m le' := fun w hw => by
    have l1 := L.mlt ha hw
    by_cases e : mt m le' a w = a
    · exact .inl (by rw [← e]; exact L.m2 ha hw)
    · by_cases e2 : bt m le' = mt m le' a w
      · exact .inr e2.symm
      · have c1 : ls le' (bt m le') (mt m le' a w) = true := by unfold ls; simp [e2, bt_le L l1]
        have c2 : ls le' (mt m le' a w) a = true := by unfold ls; simp [e, L.m1 ha hw]
        rw [cov_f l1 c1 c2] at hc
        exact absurd hc (by simp)
  rcases key y hy with e1 | e1
  · exact .inl e1
  · rcases key z hz with e2 | e2
    · exact .inr e2
    · exfalso
      have e := h.dis a y z ha hy hz
      rw [e1, e2, mt_self L.du (bt_lt L)] at e
      have lj := jlt L hy hz
      have : mt m le' a (mt m (du le') y z) = a := L.as (L.mlt ha lj) ha (L.m1 ha lj) (L.mg ha lj ha (L.ord.refl a ha) hj)
      rw [this] at e
      unfold ls at hls
      simp [e] at hls

theorem atom_hit {n m : Nat} {le le' : Nat → Nat → Bool} (h : BoolP n le) (h' : BoolP m le') {F : List Nat} (hl : F.length = n) (hF : ∀ x ∈ F, x < m) (hm : LMp n m le le' F) {a : Nat} (ha : a < m) (hc : cov m le' (bt m le') a = true) : ∃ k, k < (atm n le).length ∧ le' a (F.getD ((atm n le).getD k 0) 0) = true := by
  have L := h.lp
  have L' := h'.lp
  have hFl : ∀ x, x < n → F.getD x 0 < m := fun x hx => hF _ (getD_mem (by omega))
  suffices hh : ∀ d x, x < n → (fl n fun z => ls le z x).length < d → le' a (F.getD x 0) = true → ∃ k, k < (atm n le).length ∧ le' a (F.getD ((atm n le).getD k 0) 0) = true from
    hh _ (tp n le) (tp_lt L) (Nat.lt_succ_self _) (by rw [hm.top]; exact le_tp L' ha)
  intro d
  induction d with
  | zero => intro x _ hd; omega
  | succ d ih =>
    intro x hx hd hax
    by_cases e0 : bt n le = x
    · exfalso
      rw [← e0, hm.bot] at hax
      have := L'.as ha (bt_lt L') hax (bt_le L' ha)
      have hls := cov_ls hc
      unfold ls at hls
      simp [this] at hls
    · by_cases ec : cov n le (bt n le) x = true
      · have : x ∈ atm n le := fl_mem.2 ⟨hx, ec⟩
        obtain ⟨k, hk, e⟩ := List.getElem_of_mem this
        exact ⟨k, hk, by rw [getD_get hk, e]; exact hax⟩
      · have h0 : ls le (bt n le) x = true := by unfold ls; simp [e0, bt_le L hx]
        have hex : ∃ z, z < n ∧ ls le (bt n le) z = true ∧ ls le z x = true := by
          by_cases q : ∃ z, z < n ∧ ls le (bt n le) z = true ∧ ls le z x = true
          · exact q
          · exact absurd (cov_t h0 fun z hz hzz => q ⟨z, hz, hzz⟩) ec
        obtain ⟨y, hy, y1, y2⟩ := hex
        obtain ⟨q1, q2, q3⟩ := cpl_spec h.cmp hy
        have lw := L.mlt hx q1
        have hyx : le y x = true := by unfold ls at y2; simp at y2; exact y2.2
        have e := h.dis x (cpl n le y) y hx q1 hy
        rw [q3] at e
        have et : mt n le x (tp n le) = x := L.as (L.mlt hx (tp_lt L)) hx (L.m1 hx (tp_lt L)) (L.mg hx (tp_lt L) hx (L.ord.refl x hx) (le_tp L hx))
        have ey : mt n le x y = y := L.as (L.mlt hx hy) hy (L.m2 hx hy) (L.mg hx hy hy hyx (L.ord.refl y hy))
        rw [et, ey] at e
        have hmp := (hm.maps (mt n le x (cpl n le y)) y lw hy).2
        rw [← e] at hmp
        rw [hmp] at hax
        have dn : ∀ w, w < n → ls le w x = true → (fl n fun z => ls le z w).length < (fl n fun z => ls le z x).length := fun w hw hwx => fl_lt (fun z hz hzw => ls_tr L hz hw hx hzw hwx) hw hwx ls_irr
        rcases atom_prime h' ha (hFl _ lw) (hFl y hy) hc hax with c | c
        · have hwx : ls le (mt n le x (cpl n le y)) x = true := by
            unfold ls
            rw [L.m1 hx q1, Bool.and_true, decide_eq_true_eq]
            intro ew
            have h1 : le x (cpl n le y) = true := by rw [← ew]; exact L.m2 hx q1
            have h2 := L.tr hy hx q1 hyx h1
            have h3 := bool_contra h (bt_lt L) hy hy (L.ord.refl y hy) h2
            have h4 := L.as hy (bt_lt L) h3 (bt_le L hy)
            unfold ls at y1
            simp [h4] at y1
          exact ih _ lw (by have := dn _ lw hwx; omega) c
        · exact ih _ hy (by have := dn _ hy y2; omega) c

def amv (n m : Nat) (le le' : Nat → Nat → Bool) (F : List Nat) (a : Nat) : Nat := fst_ (atm n le).length fun k => le' a (F.getD ((atm n le).getD k 0) 0)

theorem atomMap_both {n m : Nat} {le le' : Nat → Nat → Bool} (h : BoolP n le) (h' : BoolP m le') {F : List Nat} (hl : F.length = n) (hF : ∀ x ∈ F, x < m) (hm : LMp n m le le' F) :
    zz73_F6 big (cs F) (some (lat n le)) (some (lat m le')) [] (cs (atm m le')) ((atm m le').length : Int) 0 = some (((atm m le').map fun a => ((amv n m le le' F a : Nat) : Int), true, ()), ()) ∧
    zz70_F6 big (cs F) (pos m le') [] (cs (atm m le')) (cs (atm n le)) 0 = some (((atm m le').map fun a => ((amv n m le le' F a : Nat) : Int), true, ()), ()) := by
  have h10 := h.lp.le10
  have h10' := h'.lp.le10
  have hAl := atm_len n le
  have hBl := atm_len m le'
  constructor
  · refine zz73_h6 (atm m le').length (fun i l => l = ((atm m le').take i).map fun a => ((amv n m le le' F a : Nat) : Int)) (by omega) ?_ ?_ 0 (by omega) _ rfl
    · intro rc i l hi hv ih
      have hm1 := fl_mem.1 (List.getElem_mem hi)
      obtain ⟨k0, hk0, hp0⟩ := atom_hit h h' hl hF hm hm1.1 hm1.2
      obtain ⟨f1, f2, f3, f4⟩ := fst_spec (P := fun k => le' (atm m le')[i] (F.getD ((atm n le).getD k 0) 0)) hk0 hp0
      unfold zz73_b6
      simp only [cdt (show (i : Int) < ((atm m le').length : Int) by omega), atI_cs hi, Int.toNat_natCast, get_cs hi, Option.bind_some, atoms_eq h.lp, cs_len]
      refine zz73_h9 (atm n le).length (fun k => k ≤ amv n m le le' F (atm m le')[i]) (by omega) ?_ ?_ 0 (by omega) (by omega)
      · intro rc2 k hk hv2 ih2
        have lk := atm_lt _ (getD_mem hk)
        have lF : (atm n le).getD k 0 < F.length := by rw [hl]; exact lk
        have lF2 := hF _ (getD_mem lF)
        unfold zz73_b9
        simp only [cdt (show (k : Int) < ((atm n le).length : Int) by omega), atI_csD hk, Int.toNat_natCast, get_csD hk, Option.bind_some, lat1, atI_mkR hm1.1, atI_csD lF, atI_mkR lF2, wr1 (show k ≤ 4611686018427387904 by omega)]
        by_cases e : k = amv n m le le' F (atm m le')[i]
        · have : le' (atm m le')[i] (F.getD ((atm n le).getD k 0) 0) = true := by rw [e]; exact f2
          rw [this, cond_true, app1 (by rw [hv, List.length_map, List.length_take]; omega), Option.bind_some, zz73_a9, wr1 (by omega)]
          exact ih _ (by rw [hv, map_take hi, e])
        · have : le' (atm m le')[i] (F.getD ((atm n le).getD k 0) 0) = false := f3 k (by unfold amv at *; omega)
          rw [this, cond_false]
          exact ih2 (by omega)
      · intro rc2 hv2
        exact absurd f1 (by unfold amv at *; omega)
    · intro rc l hv
      rw [List.take_length] at hv
      unfold zz73_b6
      rw [cdf (by omega), zz73_a6, hv]
  · refine zz70_h6 (atm m le').length (fun i l => l = ((atm m le').take i).map fun a => ((amv n m le le' F a : Nat) : Int)) (by omega) ?_ ?_ 0 (by omega) _ rfl
    · intro rc i l hi hv ih
      have hm1 := fl_mem.1 (List.getElem_mem hi)
      obtain ⟨k0, hk0, hp0⟩ := atom_hit h h' hl hF hm hm1.1 hm1.2
      obtain ⟨f1, f2, f3, f4⟩ := fst_spec (P := fun k => le' (atm m le')[i] (F.getD ((atm n le).getD k 0) 0)) hk0 hp0
      unfold zz70_b6
      rw [cs_len, cdt (by omega)]
      refine zz70_h9 (atm n le).length (fun k => k ≤ amv n m le le' F (atm m le')[i]) (by omega) ?_ ?_ 0 (by omega) (by omega)
      · intro rc2 k hk hv2 ih2
        have lk := atm_lt _ (getD_mem hk)
        have lF : (atm n le).getD k 0 < F.length := by rw [hl]; exact lk
        have lF2 := hF _ (getD_mem lF)
        unfold zz70_b9
        simp only [atI_cs hi, Int.toNat_natCast, get_cs hi, atI_csD hk, get_csD hk, Option.bind_some, atI_csD lF, l23Leq_pos (le := le') (show m ≤ 4294967296 by omega) hm1.1 lF2, wr1 (show k ≤ 4611686018427387904 by omega)]
        by_cases e : k = amv n m le le' F (atm m le')[i]
        · have : le' (atm m le')[i] (F.getD ((atm n le).getD k 0) 0) = true := by rw [e]; exact f2
          rw [this, Bool.not_true, cond_false, zz70_a9, app1 (by rw [hv, List.length_map, List.length_take]; omega), Option.bind_some, wr1 (by omega)]
          exact ih _ (by rw [hv, map_take hi, e])
        · have : le' (atm m le')[i] (F.getD ((atm n le).getD k 0) 0) = false := f3 k (by unfold amv at *; omega)
          rw [this, Bool.not_false, cond_true]
          exact ih2 (by omega)
      · intro rc2 hv2
        exact absurd f1 (by unfold amv at *; omega)
    · intro rc l hv
      rw [List.take_length] at hv
      unfold zz70_b6
      rw [cs_len, cdf (by omega), zz70_a6, hv]

theorem atomMap_eq (p q : PT) (f : List Int) (hp : ∀ r ∈ p.1, r.length ≤ 4294967296) (hq : ∀ r ∈ q.1, r.length ≤ 4294967296) (hf : f.length ≤ 1048576) :
    ∃ v : List Int × Bool × Unit, zz70 big p q f = some (v, ()) ∧ zz73 big p q f = some (v, ()) ∧ v.1.length ≤ 10 := by
  unfold zz70 zz70_s zz73 zz73_s
  rcases bool_cases hp with ⟨n, le, e, h, h1, h2⟩ | ⟨h1, l, h2⟩
  · rcases bool_cases hq with ⟨m, le', e', h', h1', h2'⟩ | ⟨h1', l', h2'⟩
    · rw [h1, h1', twoBool_eq h2 h2']
      subst e; subst e'
      have h10 := h.lp.le10
      have h10' := h'.lp.le10
      have hBl := atm_len m le'
      simp only [Option.bind_some, Bool.and_self, Bool.not_true, cond_false]
      have bad : ∀ {a b : Option (Bool × Unit)}, a = some (false, ()) → b = some (false, ()) → True := fun _ _ => trivial
      by_cases hgl : f.length = n
      · cases hga : f.all (inB m) with
        | false =>
          have e1 : zz69 big (pos n le) (pos m le') f = some (false, ()) := by
            unfold zz69 zz69_s
            rw [pos_len, pos_len, cdf (by omega), l2Elements_eq m f (by omega) (by omega), hga]; rfl
          have e2 : zz72 big (some (lat n le)) (some (lat m le')) f = some (false, ()) := by
            unfold zz72 zz72_s
            rw [Option.bind_some, lat1, mkR_len, cdf (by omega), Option.bind_some, lat1, has_eq f (by omega), hga]; rfl
          rw [e1, e2]
          exact ⟨_, rfl, rfl, by simp⟩
        | true =>
          obtain ⟨F, e1, hF⟩ := allB_form hga
          subst e1
          rw [cs_len] at hgl
          rw [lmap_impl h.lp h'.lp hgl hF hga, lmap_spec h.lp h'.lp hgl hF hga]
          by_cases hm : LMp n m le le' F
          · obtain ⟨r1, r2⟩ := atomMap_both h h' hgl hF hm
            simp only [tv_t hm, Option.bind_some, Bool.not_true, cond_false, atoms_eq h.lp, atoms_eq h'.lp, specAtoms_eq h.lp, specAtoms_eq h'.lp, cs_len, r1, r2]
            exact ⟨_, rfl, rfl, by simp only [List.length_map]; omega⟩
          · rw [tv_f hm]
            exact ⟨_, rfl, rfl, by simp⟩
      · have e1 : zz69 big (pos n le) (pos m le') f = some (false, ()) := by
          unfold zz69 zz69_s
          rw [pos_len, pos_len, cdt (by omega)]
        have e2 : zz72 big (some (lat n le)) (some (lat m le')) f = some (false, ()) := by
          unfold zz72 zz72_s
          rw [Option.bind_some, lat1, mkR_len, cdt (by omega)]
        rw [e1, e2]
        exact ⟨_, rfl, rfl, by simp⟩
    · rw [h1, h1', twoBool_eq h2 h2']
      exact ⟨_, rfl, rfl, by simp⟩
  · rcases bool_cases hq with ⟨m, le', e', h', h1', h2'⟩ | ⟨h1', l', h2'⟩
    · rw [h1, twoBool_eq h2 h2']
      exact ⟨_, rfl, rfl, by simp⟩
    · rw [h1, twoBool_eq h2 h2']
      exact ⟨_, rfl, rfl, by simp⟩

theorem true_AtomMapOf (p q : PT) (g : List Int) (hw : Wf (.pair (.pair (.sl (.sl I)) .unit) (.pair (.pair (.sl (.sl I)) .unit) (.pair (.sl I) .unit))) (p, q, g, ())) : laws_FnExactAtomMapOf p q g = some (true, ()) := by
  unfold laws_FnExactAtomMapOf laws_FnExactAtomMapOf_s
  by_cases hl : g.length ≤ 1048576
  · obtain ⟨v, hv, hv1, hv2⟩ := szPoset_eq p 1048576 hw.1 (by omega) (by omega)
    rw [cdf (by omega), hv, Option.bind_some]
    by_cases h : v < 0
    · rw [cdt h]
    · have hs := hv2 (by omega)
      obtain ⟨u, hu, hu1, hu2⟩ := szPoset_eq q v hw.2.1 (by omega) (by omega)
      rw [cdf h, hu, Option.bind_some]
      by_cases h3 : u < 0
      · rw [cdt h3]
      · have hs2 := hu2 (by omega)
        obtain ⟨r, h1, h2, h3⟩ := atomMap_eq p q g hs.rows hs2.rows hl
        obtain ⟨m, j, hm, hj, hj2⟩ := markPoset_ok2 hs 1 (by omega) (by omega)
        obtain ⟨m', j', hm', hj', hj2'⟩ := markPoset_ok2 hs2 j hj (by omega)
        simp only [cdf (show ¬ u < 0 by omega), toPoset_eq hs, toPoset_eq hs2, toIntS_eq g (show g.length ≤ 4294967296 by omega), Option.bind_some, h1, h2, eqPoset_eq hs, eqPoset_eq hs2, eqIntS_eq g g (show g.length ≤ 1099511627775 by omega), eqIntS_eq r.1 r.1 (show r.1.length ≤ 1099511627775 by omega),
          hm, hm', markIntS_eq2 g j' (show g.length ≤ 1099511627775 by omega) hj' (show j' ≤ 10995116277760 by omega), markIntS_eq2 r.1 1 (show r.1.length ≤ 1099511627775 by omega) (show (0 : Int) ≤ 1 by omega) (show (1 : Int) ≤ 10995116277760 by omega), heldIntS_eq 1 r.1.length (show r.1.length ≤ 1099511627775 by omega) (show (0 : Int) ≤ 1 by omega) (show (1 : Int) ≤ 1099511627776 by omega)]
        simp
        repeat rw [cdf (by omega)]
  · rw [cdt (by omega)]

abbrev OpT := Int × List Int × Unit

abbrev AlT := Int × List OpT × Unit

def SmallA (a : AlT) : Prop := a.2.1.length ≤ 1048576 ∧ ∀ o ∈ a.2.1, o.2.1.length ≤ 1048576

theorem eqOp_self (a : OpT) (h : a.2.1.length ≤ 1048576) : zz81 a a = some (true, ()) := by
  unfold zz81 zz81_s
  rw [cdf (fun c => c rfl), eqIntS_eq a.2.1 a.2.1 (by omega), Option.bind_some]
  simp

theorem eqOpS_self (a : List OpT) (h : a.length ≤ 1048576) (hx : ∀ o ∈ a, o.2.1.length ≤ 1048576) : zz82 big a a = some (true, ()) := by
  unfold zz82 zz82_s
  rw [cdf (by omega)]
  refine zz82_h4 a.length (fun _ => True) (by omega) ?_ ?_ 0 (by omega) trivial
  · intro rc i hi _ ih
    unfold zz82_b4
    rw [cdt (by omega), atI_lt a i hi, Option.bind_some, Option.bind_some, eqOp_self _ (hx _ (List.getElem_mem hi)), Option.bind_some, wr1 (by omega)]
    exact ih trivial
  · intro rc _
    unfold zz82_b4
    rw [cdf (by omega), zz82_a4]

theorem eqAlg_self {a : AlT} (h : SmallA a) : zz83 a a = some (true, ()) := by
  unfold zz83 zz83_s
  rw [cdf (fun c => c rfl), eqOpS_self _ h.1 h.2, Option.bind_some]
  simp

def sumO (l : List Nat) : Nat := (l.map (· + 1)).sum

theorem sumO_snoc (l : List Nat) (n : Nat) : sumO (l ++ [n]) = sumO l + (n + 1) := by unfold sumO; simp

def marksO : Int → List Nat → List OpT
  | _, [] => []
  | k, n :: ns => (k, marks (k + 1) n, ()) :: marksO (k + 1 + n) ns

theorem marksO_len : ∀ (k : Int) (ns : List Nat), (marksO k ns).length = ns.length
  | _, [] => rfl
  | k, n :: ns => by simp [marksO, marksO_len _ ns]

theorem marksO_snoc : ∀ (k : Int) (l : List Nat) (n : Nat), marksO k (l ++ [n]) = marksO k l ++ [(k + (sumO l : Nat), marks (k + (sumO l : Nat) + 1) n, ())]
  | k, [], n => by simp [marksO, sumO]
  | k, m :: l, n => by
    have e : k + 1 + (m : Int) + ((sumO l : Nat) : Int) = k + ((sumO (m :: l) : Nat) : Int) := by unfold sumO; simp; omega
    rw [List.cons_append, marksO, marksO_snoc (k + 1 + m) l n, e]; rfl

theorem marksO_get : ∀ (k : Int) (ns : List Nat) (i : Nat) (h : i < ns.length), (marksO k ns)[i]? = some (k + (sumO (ns.take i) : Nat), marks (k + (sumO (ns.take i) : Nat) + 1) ns[i], ())
  | k, [], i, h => by simp at h
  | k, n :: ns, 0, h => by simp [marksO, sumO]
  | k, n :: ns, i + 1, h => by
    have e : k + 1 + (n : Int) + ((sumO (ns.take i) : Nat) : Int) = k + ((sumO ((n :: ns).take (i + 1)) : Nat) : Int) := by unfold sumO; simp; omega
    have hh := marksO_get (k + 1 + n) ns i (by simpa using h)
    rw [e] at hh
    rw [marksO, List.getElem?_cons_succ, hh]; rfl

theorem sumO_take (l : List Nat) {i : Nat} (h : i < l.length) : sumO (l.take (i + 1)) = sumO (l.take i) + (l[i] + 1) := by
  rw [List.take_succ_eq_append_getElem h, sumO_snoc]

theorem sumO_le (l : List Nat) (i : Nat) : sumO (l.take i) ≤ sumO l := by
  have : sumO l = sumO (l.take i) + sumO (l.drop i) := by
    unfold sumO
    rw [← List.sum_append, ← List.map_append, List.take_append_drop]
  omega

theorem sumO_bound {l : List Nat} {k : Nat} (h : ∀ n ∈ l, n ≤ k) : sumO l ≤ l.length * (k + 1) := by
  induction l with
  | nil => simp [sumO]
  | cons n l ih =>
    have h1 := ih fun m hm => h m (List.mem_cons_of_mem _ hm)
    have h2 := h n List.mem_cons_self
    unfold sumO at *
    rw [List.map_cons, List.sum_cons, List.length_cons, Nat.succ_mul]; omega

abbrev lensO (a : List OpT) : List Nat := a.map fun o => o.2.1.length

theorem get_mid {α : Type} {p q : List α} {o : α} {i : Nat} (h : p.length = i) : (p ++ o :: q)[i]? = some o := by
  rw [List.getElem?_append_right (by omega), h, Nat.sub_self]; rfl

theorem atI_mid {α : Type} {p q : List α} {o : α} {i : Nat} (h : p.length = i) : atI (p ++ o :: q) (i : Int) = some o := by rw [atI_nat, get_mid h]

theorem set_mid {α : Type} {p q : List α} {o x : α} {i : Nat} (h : p.length = i) : (p ++ o :: q).set i x = p ++ x :: q := by
  rw [List.set_append_right _ _ (by omega), h, Nat.sub_self]; rfl

theorem markOpS_eq (a : List OpT) (k : Int) (h : a.length ≤ 1048576) (hx : ∀ o ∈ a, o.2.1.length ≤ 1048576) (hk : 0 ≤ k) (hk2 : k + (sumO (lensO a) : Nat) ≤ 9000000000000) : zz84 big a k = some (k + (sumO (lensO a) : Nat), (marksO k (lensO a), ())) := by
  have hll : (lensO a).length = a.length := List.length_map _
  unfold zz84 zz84_s
  refine zz84_h2 a.length (fun i b q => b = marksO k ((lensO a).take i) ++ a.drop i ∧ q = k + (sumO ((lensO a).take i) : Nat)) (by omega) ?_ ?_ 0 (by omega) _ _ ⟨rfl, by simp [sumO]⟩
  · intro rc i b q hi hv ih
    obtain ⟨e1, e2⟩ := hv
    have hpl : (marksO k ((lensO a).take i)).length = i := by rw [marksO_len, List.length_take, hll]; omega
    have hil : i < (lensO a).length := by omega
    have hs1 := sumO_take (lensO a) hil
    have hs2 := sumO_le (lensO a) (i + 1)
    have hoi := hx _ (List.getElem_mem hi)
    have hle : (lensO a)[i] = (a[i]).2.1.length := by simp
    have hbl : b.length = a.length := by rw [e1, List.length_append, hpl, List.length_drop]; omega
    rw [List.drop_eq_getElem_cons hi] at e1
    unfold zz84_b2
    rw [cdt (by omega)]
    subst e1
    simp only [Int.toNat_natCast, atI_mid hpl, get_mid hpl, set_mid hpl, Option.bind_some]
    rw [wr (by omega) (by omega), markIntS_eq2 _ (q + 1) (by omega) (by omega) (by omega)]
    simp only [Option.bind_some, wr1 (show i ≤ 4611686018427387904 by omega)]
    refine ih _ _ ⟨?_, by omega⟩
    rw [List.take_succ_eq_append_getElem hil, marksO_snoc, e2, hle, List.append_assoc]; rfl
  · intro rc b q hv
    obtain ⟨e1, e2⟩ := hv
    rw [List.drop_length, List.append_nil, ← hll, List.take_length] at e1
    rw [← hll, List.take_length] at e2
    unfold zz84_b2
    rw [cdf (by rw [e1, marksO_len, hll]; omega), zz84_a2, e1, e2]

theorem heldOpS_eq (k : Int) (ns : List Nat) (h : ns.length ≤ 1048576) (hk : 0 ≤ k) (hx : ∀ n ∈ ns, n ≤ 1048576) (hk2 : k + (sumO ns : Nat) ≤ 1099511627775) : zz86 big (marksO k ns) k = some (k + (sumO ns : Nat), ()) := by
  unfold zz86 zz86_s
  refine zz86_h2 ns.length (fun i q => q = k + (sumO (ns.take i) : Nat)) (by omega) ?_ ?_ 0 (by omega) _ (by simp [sumO])
  · intro rc i q hi hq ih
    have hg := marksO_get k ns i hi
    have hat : atI (marksO k ns) (i : Int) = some (k + (sumO (ns.take i) : Nat), marks (k + (sumO (ns.take i) : Nat) + 1) ns[i], ()) := by rw [atI_nat, hg]
    have hs1 := sumO_take ns hi
    have hs2 := sumO_le ns (i + 1)
    have hn := hx _ (List.getElem_mem hi)
    unfold zz86_b2
    rw [marksO_len, cdt (by omega)]
    simp only [hat, Option.bind_some]
    rw [cdf (by omega), wr (by omega) (by omega), hq, heldIntS_eq _ ns[i] (by omega) (by omega) (by omega), Option.bind_some, cdf (by omega), wr1 (by omega)]
    exact ih _ (by omega)
  · intro rc q hq
    rw [List.take_length] at hq
    unfold zz86_b2
    rw [marksO_len, cdf (by omega), zz86_a2, hq]

theorem markAlg_eq {a : AlT} (h : SmallA a) (k : Int) (hk : 0 ≤ k) (hk2 : k + (sumO (lensO a.2.1) : Nat) ≤ 9000000000000) : zz85 a k = some (k + (sumO (lensO a.2.1) : Nat), ((a.1, marksO k (lensO a.2.1), ()), ())) := by
  unfold zz85
  rw [markOpS_eq a.2.1 k h.1 h.2 hk hk2]; rfl

theorem heldAlg_eq (s k : Int) (ns : List Nat) (h : ns.length ≤ 1048576) (hk : 0 ≤ k) (hx : ∀ n ∈ ns, n ≤ 1048576) (hk2 : k + (sumO ns : Nat) ≤ 1099511627775) : zz87 (s, marksO k ns, ()) k = some (k + (sumO ns : Nat), ()) := by
  unfold zz87 zz87_s
  rw [heldOpS_eq k ns h hk hx hk2, Option.bind_some, cdf (by omega)]

def flt (n : Nat) (f : Nat → Nat → Int) : Nat → List Int
  | 0 => []
  | k + 1 => flt n f k ++ mkR n (f k)

theorem flt_len (n : Nat) (f : Nat → Nat → Int) : ∀ k, (flt n f k).length = k * n
  | 0 => by simp [flt]
  | k + 1 => by rw [flt, List.length_append, flt_len n f k, mkR_len, Nat.succ_mul]

theorem nn_le {i n : Nat} (h1 : i ≤ 10) (h2 : n ≤ 10) : i * n ≤ 100 := by
  have := Nat.mul_le_mul h1 h2; omega

theorem flatOp_eq {n : Nat} {f : Nat → Nat → Int} (h : n ≤ 10) : zz77 big (mkT n f) = some ((2, flt n f n, ()), ()) := by
  unfold zz77 zz77_s
  rw [mkR_len]
  refine zz77_h3 n (fun i o => o = ((2 : Int), flt n f i, ())) (by omega) ?_ ?_ 0 (by omega) _ rfl
  · intro rc i o hi hv ih
    have hl := flt_len n f i
    have hn := nn_le (i := i) (n := n) (by omega) h
    subst hv
    unfold zz77_b3
    have e : appI (flt n f i) (mkR n (f i)) = some (flt n f (i + 1)) := by
      unfold appI
      rw [if_pos (by rw [mkR_len]; omega)]; rfl
    simp only [cdt (show (i : Int) < (n : Int) by omega), atI_mkR hi, Option.bind_some, e, wr1 (show i ≤ 4611686018427387904 by omega)]
    exact ih _ rfl
  · intro rc o hv
    unfold zz77_b3
    rw [cdf (by omega), zz77_a3, hv]

abbrev meetF (n : Nat) (le : Nat → Nat → Bool) : Nat → Nat → Int := fun x y => ((mt n le x y : Nat) : Int)

def latAlg (n : Nat) (le : Nat → Nat → Bool) : AlT := ((n : Int), [(2, flt n (meetF n le) n, ()), (2, flt n (meetF n (du le)) n, ())], ())

theorem algebra_eq {n : Nat} {le : Nat → Nat → Bool} (h : LatP n le) : zz78 (some (lat n le)) = some (latAlg n le, ()) := by
  unfold zz78 zz78_s
  simp only [Option.bind_some, lat1, lat2, lat3, mkR_len, flatOp_eq h.le10]
  rfl

theorem specAlgebra_eq {n : Nat} {le : Nat → Nat → Bool} (h : LatP n le) : zz74 big (pos n le) = some (latAlg n le, ()) := by
  have h10 := h.le10
  unfold zz74 zz74_s
  rw [specDual_pos (by omega), Option.bind_some, pos_len]
  refine zz74_h5 n (fun i a b => a = ((2 : Int), flt n (meetF n le) i, ()) ∧ b = ((2 : Int), flt n (meetF n (du le)) i, ())) (by omega) ?_ ?_ 0 (by omega) _ _ ⟨rfl, rfl⟩
  · intro rc i a b hi hv ih
    obtain ⟨e1, e2⟩ := hv
    subst e1; subst e2
    have hl := flt_len n (meetF n le) i
    have hl2 := flt_len n (meetF n (du le)) i
    have hn := nn_le (i := i) (n := n) (by omega) h10
    unfold zz74_b5
    rw [cdt (by omega)]
    refine zz74_h8 n (fun j a b => a = ((2 : Int), flt n (meetF n le) i ++ mkR j (meetF n le i), ()) ∧ b = ((2 : Int), flt n (meetF n (du le)) i ++ mkR j (meetF n (du le) i), ())) (by omega) ?_ ?_ 0 (by omega) _ _ ⟨by rw [mkR_zero, List.append_nil], by rw [mkR_zero, List.append_nil]⟩
    · intro rc2 j a b hj hv2 ih2
      obtain ⟨e1, e2⟩ := hv2
      subst e1; subst e2
      have b1 : zz13 big (pos n le) [(i : Int), (j : Int)] = some (((mt n le i j : Nat) : Int), ()) := specBoundL h (S := [i, j]) (by intro s hs; simp at hs; omega) (by simp)
      have b2 : zz13 big (pos n (du le)) [(i : Int), (j : Int)] = some (((mt n (du le) i j : Nat) : Int), ()) := specBoundL h.du (S := [i, j]) (by intro s hs; simp at hs; omega) (by simp)
      unfold zz74_b8
      simp only [cdt (show (j : Int) < (n : Int) by omega), b1, b2, Option.bind_some]
      rw [app1 (by rw [List.length_append, mkR_len]; omega), Option.bind_some, app1 (by rw [List.length_append, mkR_len]; omega), Option.bind_some, wr1 (by omega)]
      exact ih2 _ _ ⟨by rw [mkR_succ, List.append_assoc], by rw [mkR_succ, List.append_assoc]⟩
    · intro rc2 a b hv2
      obtain ⟨e1, e2⟩ := hv2
      unfold zz74_b8
      rw [cdf (by omega), zz74_a8, wr1 (by omega)]
      exact ih _ _ ⟨e1, e2⟩
  · intro rc a b hv
    obtain ⟨e1, e2⟩ := hv
    unfold zz74_b5
    rw [cdf (by omega), zz74_a5, e1, e2]
    rfl

theorem boolAlg_eq (p : PT) (hx : ∀ r ∈ p.1, r.length ≤ 4294967296) : ∃ v : AlT × Bool × Unit, zz76 p = some (v, ()) ∧ zz80 p = some (v, ()) ∧ v.1.2.1.length ≤ 3 ∧ ∀ o ∈ v.1.2.1, o.2.1.length ≤ 100 := by
  unfold zz76 zz76_s zz80 zz80_s
  rcases bool_cases hx with ⟨n, le, e, h, h1, h2⟩ | ⟨h1, l, h2⟩
  · subst e
    have h10 := h.lp.le10
    have hn := nn_le (i := n) (n := n) h10 h10
    have hl := flt_len n (meetF n le) n
    have hl2 := flt_len n (meetF n (du le)) n
    rw [h1, h2]
    simp only [Option.bind_some, Bool.not_true, cond_false, specAlgebra_eq h.lp, algebra_eq h.lp, specCompl_eq h, complList_eq h]
    have e : appI (latAlg n le).2.1 [((1 : Int), (mkR n fun x => ((cpl n le x : Nat) : Int), ()))] = some [(2, flt n (meetF n le) n, ()), (2, flt n (meetF n (du le)) n, ()), ((1 : Int), (mkR n fun x => ((cpl n le x : Nat) : Int), ()))] := rfl
    rw [e]
    refine ⟨_, rfl, rfl, by simp, ?_⟩
    intro o ho
    simp only [Option.bind_some, List.mem_cons, List.not_mem_nil, or_false] at ho
    rcases ho with rfl | rfl | rfl
    · simp only [hl]; omega
    · simp only [hl2]; omega
    · simp only [mkR_len]; omega
  · rw [h1, h2]
    exact ⟨_, rfl, rfl, by simp, by simp⟩

theorem true_BooleanAlgebraOf (p : PT) (hw : Wf (.pair (.pair (.sl (.sl I)) .unit) .unit) (p, ())) : laws_FnExactBooleanAlgebraOf p = some (true, ()) := by
  obtain ⟨v, hv, hv1, hv2⟩ := szPoset_eq p 1048576 hw.1 (by omega) (by omega)
  unfold laws_FnExactBooleanAlgebraOf laws_FnExactBooleanAlgebraOf_s
  rw [hv, Option.bind_some]
  by_cases h : v < 0
  · rw [cdt h]
  · have hs := hv2 (by omega)
    obtain ⟨r, h1, h2, h3, h4⟩ := boolAlg_eq p hs.rows
    obtain ⟨m, j, hm, hj, hj2⟩ := markPoset_ok hs 1 (by omega) (by omega)
    have hA : SmallA r.1 := ⟨by omega, fun o ho => by have := h4 o ho; omega⟩
    have hll : (lensO r.1.2.1).length ≤ 3 := by rw [List.length_map]; exact h3
    have hlx : ∀ n ∈ lensO r.1.2.1, n ≤ 100 := fun n hn => by
      obtain ⟨o, ho, rfl⟩ := List.mem_map.1 hn
      exact h4 o ho
    have hsum := sumO_bound hlx
    have hsum2 : sumO (lensO r.1.2.1) ≤ 303 := by omega
    simp only [cdf h, toPoset_eq hs, Option.bind_some, h1, h2, eqPoset_eq hs, eqAlg_self hA,
        hm, markAlg_eq hA 1 (show (0 : Int) ≤ 1 by omega) (show (1 : Int) + (sumO (lensO r.1.2.1) : Nat) ≤ 9000000000000 by omega), heldAlg_eq r.1.1 1 (lensO r.1.2.1) (show (lensO r.1.2.1).length ≤ 1048576 by omega) (show (0 : Int) ≤ 1 by omega) (fun n hn => Nat.le_trans (hlx n hn) (by omega)) (show (1 : Int) + (sumO (lensO r.1.2.1) : Nat) ≤ 1099511627775 by omega)]
    simp
    repeat rw [cdf (by omega)]

structure Pt (n : Nat) (P : Nat → Nat) : Prop where
  lo : ∀ x, x < n → P x ≤ x
  id : ∀ x, x < n → P (P x) = P x

theorem Pt.lt {n : Nat} {P : Nat → Nat} (h : Pt n P) {x : Nat} (hx : x < n) : P x < n := Nat.lt_of_le_of_lt (h.lo x hx) hx

def Lep (n : Nat) (P C : Nat → Nat) : Prop := ∀ x, x < n → C (P x) = C x

theorem Lep.refl {n : Nat} {P : Nat → Nat} (h : Pt n P) : Lep n P P := h.id

theorem Lep.trans {n : Nat} {P Q C : Nat → Nat} (h : Pt n P) (h1 : Lep n P Q) (h2 : Lep n Q C) : Lep n P C := fun x hx => by
  have e1 := h1 x hx
  have e2 := h2 (P x) (h.lt hx)
  have e3 := h2 x hx
  rw [← e2, e1, e3]


end Go.Proofs.Ytafkhhcnmmkieaa
