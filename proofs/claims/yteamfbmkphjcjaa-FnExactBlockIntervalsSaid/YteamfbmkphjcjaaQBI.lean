import Derived.Test.YteamfbmkphjcjaaPTab
import Derived.Test.YteamfbmkphjcjaaHBI
import Derived.KernelRfl
set_option linter.unusedVariables false
set_option linter.unusedSimpArgs false
namespace Go.Proofs.Yteamfbmkphjcjaa
open Go Go.Gx Go.Proofs

theorem toIntS_l (N : Nat) (k : List Int → Option (List Int × Unit)) : ∀ (n : Nat) (a out : List Int) (i : Nat), a.length - i < n → i ≤ a.length → out.length = a.length → a.length ≤ 1099511627776 →
    zz3_l3 N k n a out i = k (out.take i ++ a.drop i)
  | 0, _, _, _, h, _, _, _ => by omega
  | n + 1, a, out, i, h, hi, ho, hb => by
    simp only [zz3_l3, zz3_b3]
    by_cases hlt : i < a.length
    · rw [cdt (by omega), atI_lt a i hlt, Option.bind_some, atI_lt out i (by omega), Option.bind_some, Int.toNat_natCast, List.getElem?_eq_getElem (by omega), Option.bind_some, wr (by omega) (by omega)]
      have := toIntS_l N k n a (out.set i a[i]) (i + 1) (by omega) (by omega) (by simpa using ho) hb
      rw [show ((i : Int) + 1) = ((i + 1 : Nat) : Int) by omega, this]
      congr 1
      rw [List.take_succ_eq_append_getElem (by simp; omega), List.take_set, List.set_eq_of_length_le (by simp [Nat.min_le_left]), List.append_assoc]
      congr 1
      rw [List.getElem_set_self, List.singleton_append, ← List.drop_eq_getElem_cons hlt]
    · rw [cdf (by omega)]
      have : i = a.length := by omega
      subst this
      rw [List.drop_length, List.append_nil, List.take_of_length_le (by omega)]

theorem toIntS_eq (a : List Int) (h : a.length ≤ 4294967296) : zz3 big a = some (a, ()) := by
  have hb := big_ge
  unfold zz3 zz3_s
  rw [mkI_nat _ _ h, Option.bind_some, Option.bind_some, cdt (by omega)]
  unfold zz3_F3
  have := toIntS_l big zz3_a3 big a (List.replicate a.length 0) 0 (by omega) (by omega) (by simp) (by omega)
  refine Eq.trans this ?_
  simp [zz3_a3]

theorem eqIntS_l (N : Nat) (k : Option (Bool × Unit)) : ∀ (n : Nat) (a b : List Int) (i : Nat), a.length - i < n → i ≤ a.length → b.length = a.length → a.length ≤ 1099511627776 →
    zz55_l4 N k n a b i = if a.drop i = b.drop i then k else some (false, ())
  | 0, _, _, _, h, _, _, _ => by omega
  | n + 1, a, b, i, h, hi, hl, hb => by
    simp only [zz55_l4, zz55_b4]
    by_cases hlt : i < a.length
    · rw [cdt (by omega), atI_lt a i hlt, Option.bind_some, atI_lt b i (by omega), Option.bind_some, wr (by omega) (by omega)]
      have := eqIntS_l N k n a b (i + 1) (by omega) (by omega) hl hb
      rw [show ((i : Int) + 1) = ((i + 1 : Nat) : Int) by omega, this]
      rw [List.drop_eq_getElem_cons hlt, List.drop_eq_getElem_cons (show i < b.length by omega)]
      by_cases hx : a[i] = b[i]
      · rw [cdf (by simpa using hx), hx]; simp only [List.cons.injEq, true_and]
      · rw [cdt hx, if_neg (fun e => hx (by simp only [List.cons.injEq] at e; exact e.1))]
    · rw [cdf (by omega), List.drop_eq_nil_of_le (by omega), List.drop_eq_nil_of_le (by omega)]
      simp

theorem eqIntS_eq (a b : List Int) (h : a.length ≤ 1099511627775) : zz55 big a b = some (decide (a = b), ()) := by
  have hb := big_ge
  unfold zz55 zz55_s
  by_cases hl : a.length = b.length
  · rw [cdf (by simp [hl])]
    unfold zz55_F4
    have := eqIntS_l big zz55_a4 big a b 0 (by omega) (by omega) (by omega) (by omega)
    rw [show (0 : Int) = ((0 : Nat) : Int) from rfl, this]
    simp only [List.drop_zero, zz55_a4]
    by_cases he : a = b <;> simp [he]
  · rw [cdt (by omega)]
    have : a ≠ b := by rintro rfl; exact hl rfl
    simp [this]

theorem l1In_eq (x a b : Int) : zz6 x a b = some (decide (a ≤ x ∧ x ≤ b), ()) := by
  unfold zz6 zz6_s
  by_cases h : a ≤ x <;> simp [h]

def marks : Int → Nat → List Int
  | _, 0 => []
  | k, n + 1 => k :: marks (k + 1) n

theorem markIntS_l (N : Nat) (kk : List Int → Int → Option (Int × (List Int × Unit))) : ∀ (n : Nat) (a : List Int) (k : Int) (i : Nat), a.length - i < n → i ≤ a.length → a.length ≤ 1099511627776 → 0 ≤ k → k ≤ 1125899906842624 →
    k + (a.length - i : Nat) ≤ 1125899906842624 → zz58_l2 N kk n a k i = kk (a.take i ++ marks k (a.length - i)) (k + (a.length - i : Nat))
  | 0, _, _, _, h, _, _, _, _, _ => by omega
  | n + 1, a, k, i, h, hi, hb, hk0, hk, hk2 => by
    simp only [zz58_l2, zz58_b2]
    by_cases hlt : i < a.length
    · rw [cdt (by omega), atI_lt a i hlt, Option.bind_some, Int.toNat_natCast, List.getElem?_eq_getElem hlt, Option.bind_some, wr (by omega) (by omega), wr (by omega) (by omega)]
      have := markIntS_l N kk n (a.set i k) (k + 1) (i + 1) (by simp; omega) (by simp; omega) (by simpa using hb) (by omega) (by omega) (by simp; omega)
      rw [show ((i : Int) + 1) = ((i + 1 : Nat) : Int) by omega, this]
      rw [List.length_set, List.take_succ_eq_append_getElem (by simp; omega), List.take_set, List.set_eq_of_length_le (by simp [Nat.min_le_left]), List.append_assoc, List.getElem_set_self]
      have e : a.length - i = (a.length - (i + 1)) + 1 := by omega
      rw [e, marks]
      congr 1
      omega
    · rw [cdf (by omega)]
      have : i = a.length := by omega
      subst this
      simp [marks]

def subst (l : Int) (s : List Int) : List Int → List Int
  | [] => []
  | x :: xs => if x = l then s ++ subst l s xs else x :: subst l s xs

theorem eqIntSS_l (N : Nat) (k : Option (Bool × Unit)) : ∀ (n : Nat) (a b : List (List Int)) (i : Nat), a.length - i < n → i ≤ a.length → b.length = a.length → a.length ≤ 1099511627776 → (∀ x ∈ a, x.length ≤ 4294967296) →
    zz56_l4 N k n a b i = if a.drop i = b.drop i then k else some (false, ())
  | 0, _, _, _, h, _, _, _, _ => by omega
  | n + 1, a, b, i, h, hi, hl, hb, hx => by
    simp only [zz56_l4, zz56_b4]
    by_cases hlt : i < a.length
    · have hxx := hx _ (List.getElem_mem hlt)
      rw [cdt (by omega), atI_lt a i hlt, Option.bind_some, atI_lt b i (by omega), Option.bind_some, eqIntS_eq _ _ (by omega), Option.bind_some, wr (by omega) (by omega)]
      have := eqIntSS_l N k n a b (i + 1) (by omega) (by omega) hl hb hx
      rw [show ((i : Int) + 1) = ((i + 1 : Nat) : Int) by omega, this]
      rw [List.drop_eq_getElem_cons hlt, List.drop_eq_getElem_cons (show i < b.length by omega)]
      by_cases hx : a[i] = b[i]
      · rw [hx]; simp only [decide_true, Bool.not_true, cond_false, List.cons.injEq, true_and]
      · rw [decide_eq_false hx]; exact (if_neg (fun e => hx (List.cons.inj e).1)).symm
    · rw [cdf (by omega), List.drop_eq_nil_of_le (by omega), List.drop_eq_nil_of_le (by omega)]
      simp

theorem eqIntSS_eq (a b : List (List Int)) (h : a.length ≤ 1099511627775) (hx : ∀ x ∈ a, x.length ≤ 4294967296) : zz56 big a b = some (decide (a = b), ()) := by
  have hb := big_ge
  unfold zz56 zz56_s
  by_cases hl : a.length = b.length
  · rw [cdf (by simp [hl])]
    unfold zz56_F4
    have := eqIntSS_l big zz56_a4 big a b 0 (by omega) (by omega) (by omega) (by omega) hx
    refine Eq.trans this ?_
    simp only [List.drop_zero, zz56_a4]
    by_cases he : a = b <;> simp [he]
  · rw [cdt (by omega)]
    have : a ≠ b := by rintro rfl; exact hl rfl
    simp [this]

theorem markIntS_eq2 (a : List Int) (k : Int) (h : a.length ≤ 1099511627775) (hk : 0 ≤ k) (hk2 : k ≤ 10995116277760) : zz58 big a k = some (k + a.length, (marks k a.length, ())) := by
  have hb := big_ge
  unfold zz58 zz58_s zz58_F2
  have := markIntS_l big zz58_a2 big a k 0 (by omega) (by omega) (by omega) hk (by omega) (by omega)
  refine Eq.trans this ?_
  simp [zz58_a2]

def risingB : List Int → Bool
  | x :: y :: r => decide (x < y) && risingB (y :: r)
  | _ => true

def inB (n : Nat) (x : Int) : Bool := decide (0 ≤ x ∧ x < n)

def isSetB (n : Nat) (s : List Int) : Bool := s.all (inB n) && risingB s

theorem rising_step (l : List Int) (i : Nat) (h : i < l.length) (h1 : 1 ≤ i) : risingB (l.drop (i - 1)) = (decide (l[i - 1] < l[i]) && risingB (l.drop i)) := by
  rw [List.drop_eq_getElem_cons (show i - 1 < l.length by omega), show i - 1 + 1 = i by omega, List.drop_eq_getElem_cons h]
  rfl

theorem rising_end (l : List Int) (i : Nat) (h : l.length ≤ i) (h1 : 1 ≤ i) : risingB (l.drop (i - 1)) = true := by
  by_cases h2 : l.length = i
  · rw [List.drop_eq_getElem_cons (show i - 1 < l.length by omega), List.drop_eq_nil_of_le (by omega)]
    rfl
  · rw [List.drop_eq_nil_of_le (by omega)]
    rfl

theorem specRising_l (N : Nat) {m : Nat} : ∀ (n : Nat) (l : List Int) (i : Nat), l.length - i < n → i ≤ l.length → l.length ≤ 1099511627776 →
    zz7_l2 N zz7_a2 n l 0 ((m : Int) - 1) i = some ((l.drop i).all (inB m) && risingB (l.drop (i - 1)), ())
  | 0, _, _, h, _, _ => by omega
  | n + 1, l, i, h, hi, hb => by
    simp only [zz7_l2, zz7_b2]
    by_cases hlt : i < l.length
    · have e : decide (0 ≤ l[i] ∧ l[i] ≤ (m : Int) - 1) = inB m l[i] := by
        unfold inB; congr 1; exact propext ⟨fun h => ⟨h.1, by omega⟩, fun h => ⟨h.1, by omega⟩⟩
      rw [cdt (by omega), atI_lt l i hlt, Option.bind_some, l1In_eq, Option.bind_some, e, wr (n := (i : Int) + 1) (by omega) (by omega), wr (n := (i : Int) - 1) (by omega) (by omega)]
      rw [show ((i : Int) + 1) = ((i + 1 : Nat) : Int) by omega, specRising_l N n l (i + 1) (by omega) (by omega) hb]
      rw [show i + 1 - 1 = i by omega]
      cases hin : inB m l[i] with
      | false =>
        rw [List.drop_eq_getElem_cons hlt, List.all_cons, hin]
        rfl
      | true =>
        simp only [Bool.not_true, cond_false]
        by_cases h0 : 0 < i
        · rw [cdt (by omega), show ((i : Int) - 1) = ((i - 1 : Nat) : Int) by omega, atI_lt l (i - 1) (by omega), Option.bind_some, Option.bind_some, rising_step l i hlt h0]
          by_cases hle : l[i] ≤ l[i - 1]
          · rw [cdt hle, decide_eq_false (by omega)]
            simp
          · rw [cdf hle, decide_eq_true (show l[i - 1] < l[i] by omega), List.drop_eq_getElem_cons hlt, List.all_cons, hin]
            simp
        · rw [cdf (by omega)]
          have : i = 0 := by omega
          subst this
          rw [show (0 : Nat) - 1 = 0 from rfl, List.drop_eq_getElem_cons hlt, List.all_cons, hin]
          simp
    · rw [cdf (by omega), List.drop_eq_nil_of_le (by omega)]
      by_cases h1 : 1 ≤ i
      · rw [rising_end l i (by omega) h1]; rfl
      · have : l = [] := List.eq_nil_of_length_eq_zero (by omega)
        subst this
        simp [risingB, zz7_a2]

theorem inSize_l (N : Nat) {m : Nat} : ∀ (n : Nat) (l : List Int) (i : Nat), l.length - i < n → i ≤ l.length → l.length ≤ 1099511627776 →
    zz31_l2 N zz31_a2 n (m : Int) l (l.length : Int) i = some ((l.drop i).all (inB m), ())
  | 0, _, _, h, _, _ => by omega
  | n + 1, l, i, h, hi, hb => by
    simp only [zz31_l2, zz31_b2]
    by_cases hlt : i < l.length
    · rw [cdt (by omega), atI_lt l i hlt, Option.bind_some, wr (n := (i : Int) + 1) (by omega) (by omega)]
      rw [show ((i : Int) + 1) = ((i + 1 : Nat) : Int) by omega, inSize_l N n l (i + 1) (by omega) (by omega) hb]
      rw [List.drop_eq_getElem_cons hlt, List.all_cons]
      unfold inB
      by_cases h0 : l[i] < 0
      · rw [cdt h0, decide_eq_false (by omega)]; rfl
      · rw [cdf h0]
        by_cases h1 : (m : Int) ≤ l[i]
        · rw [cdt h1, decide_eq_false (by omega)]; rfl
        · rw [cdf h1, decide_eq_true (by omega)]; rfl
    · rw [cdf (by omega), List.drop_eq_nil_of_le (by omega)]
      rfl

theorem rises_l (N : Nat) : ∀ (n : Nat) (l : List Int) (i : Nat), l.length - i < n → 1 ≤ i → l.length ≤ 1099511627776 → i ≤ 1099511627777 →
    zz30_l2 N zz30_a2 n l i = some (risingB (l.drop (i - 1)), ())
  | 0, _, _, h, _, _, _ => by omega
  | n + 1, l, i, h, hi, hb, hi2 => by
    simp only [zz30_l2, zz30_b2]
    by_cases hlt : i < l.length
    · rw [cdt (by omega), wr (n := (i : Int) - 1) (by omega) (by omega), show ((i : Int) - 1) = ((i - 1 : Nat) : Int) by omega, atI_lt l (i - 1) (by omega), Option.bind_some, atI_lt l i hlt, Option.bind_some, wr (n := (i : Int) + 1) (by omega) (by omega)]
      rw [show ((i : Int) + 1) = ((i + 1 : Nat) : Int) by omega, rises_l N n l (i + 1) (by omega) (by omega) hb (by omega), rising_step l i hlt hi, show i + 1 - 1 = i by omega]
      by_cases hle : l[i] ≤ l[i - 1]
      · rw [cdt hle, decide_eq_false (by omega)]; rfl
      · rw [cdf hle, decide_eq_true (by omega)]; rfl
    · rw [cdf (by omega), rising_end l i (by omega) hi]
      rfl

theorem wr1 {i : Nat} (h : i ≤ 4611686018427387904) : IntKind.i64.wrap ((i : Int) + 1) = ((i + 1 : Nat) : Int) := by rw [wr (by omega) (by omega)]; omega

abbrev PT := List (List Int) × Unit

def pos (n : Nat) (le : Nat → Nat → Bool) : PT := (mkR n fun y => cs (fl n fun x => le x y), ())

def leP (p : PT) (x y : Nat) : Bool := decide ((x : Int) ∈ p.1.getD y [])

structure Ord (n : Nat) (le : Nat → Nat → Bool) : Prop where
  refl : ∀ x, x < n → le x x = true
  anti : ∀ x y, x < n → y < n → x ≠ y → le x y = true → le y x = false
  trans : ∀ x y z, x < n → y < n → z < n → le x y = true → le y z = true → le x z = true

structure Good (p : PT) : Prop where
  len : p.1.length ≤ 10
  rows : ∀ r ∈ p.1, isSetB p.1.length r = true
  ord : Ord p.1.length (leP p)

theorem l1Has_eq (l : List Int) (x : Int) (h : l.length ≤ 4294967296) : zz8 big l x = some (decide (x ∈ l), ()) := by
  unfold zz8 zz8_s
  refine zz8_h2 l.length (fun i => x ∉ l.take i) (by omega) ?_ ?_ 0 (by omega) (by simp)
  · intro rc i hi hv ih
    unfold zz8_b2
    rw [cdt (by omega), atI_lt l i hi, Option.bind_some]
    by_cases hx : l[i] = x
    · rw [cdt hx, decide_eq_true (hx ▸ List.getElem_mem hi)]
    · rw [cdf hx, wr1 (by omega)]
      refine ih fun h => ?_
      rw [List.take_succ_eq_append_getElem hi, List.mem_append, List.mem_singleton] at h
      exact h.elim hv fun e => hx e.symm
  · intro rc hv
    unfold zz8_b2
    rw [cdf (by omega), zz8_a2, decide_eq_false (by simpa using hv)]

theorem l1Has_cs (S : List Nat) (x : Nat) (h : S.length ≤ 4294967296) : zz8 big (cs S) (x : Int) = some (decide (x ∈ S), ()) := by
  rw [l1Has_eq _ _ (by simpa using h)]
  simp only [cs_mem]

theorem l5Within_eq (a b : List Int) (ha : a.length ≤ 4294967296) (hb : b.length ≤ 4294967296) : zz9 big a b = some (tv (∀ x ∈ a, x ∈ b), ()) := by
  unfold zz9 zz9_s
  refine zz9_h2 a.length (fun i => ∀ x ∈ a.take i, x ∈ b) (by omega) ?_ ?_ 0 (by omega) (by simp)
  · intro rc i hi hv ih
    unfold zz9_b2
    rw [cdt (by omega), atI_lt a i hi, Option.bind_some, l1Has_eq _ _ hb, Option.bind_some]
    by_cases hx : a[i] ∈ b
    · rw [decide_eq_true hx, wr1 (by omega)]
      exact ih ((all_take_succ hi).2 ⟨hv, hx⟩)
    · rw [decide_eq_false hx, tv_f fun h => hx (h _ (List.getElem_mem hi))]
      rfl
  · intro rc hv
    unfold zz9_b2
    rw [cdf (by omega), zz9_a2, tv_t (by simpa using hv)]

theorem specRising_eq (n : Nat) (s : List Int) (hn : n ≤ 1099511627776) (hs : s.length ≤ 1099511627775) : zz7 big s 0 ((n : Int) - 1) = some (isSetB n s, ()) := by
  have hb := big_ge
  unfold zz7 zz7_s zz7_F2
  have := specRising_l big (m := n) big s 0 (by omega) (by omega) (by omega)
  rw [show zz7_l2 big zz7_a2 big s 0 ((n : Int) - 1) 0 = _ from this]
  rfl

theorem inSize_eq (n : Nat) (s : List Int) (hs : s.length ≤ 1099511627775) : zz31 big s (n : Int) = some (s.all (inB n), ()) := by
  have hb := big_ge
  unfold zz31 zz31_s zz31_F2
  have h1 := inSize_l big (m := n) big s 0 (by omega) (by omega) (by omega)
  rw [show (0 : Int) = ((0 : Nat) : Int) from rfl, h1]
  rfl

theorem rises_eq (s : List Int) (hs : s.length ≤ 1099511627775) : zz30 big s = some (risingB s, ()) := by
  have hb := big_ge
  unfold zz30 zz30_s zz30_F2
  have h2 := rises_l big big s 1 (by omega) (by omega) (by omega) (by omega)
  rw [show (1 : Int) = ((1 : Nat) : Int) from rfl, h2]
  rfl

theorem rising_pair : ∀ {l : List Int}, risingB l = true → l.Pairwise (· < ·)
  | [], _ => List.Pairwise.nil
  | [x], _ => by simp
  | x :: y :: r, h => by
    simp only [risingB, Bool.and_eq_true, decide_eq_true_eq] at h
    have h2 := rising_pair h.2
    refine List.pairwise_cons.2 ⟨fun z hz => ?_, h2⟩
    rcases List.mem_cons.1 hz with rfl | hz
    · exact h.1
    · have := (List.pairwise_cons.1 h2).1 z hz
      omega

theorem pair_rising : ∀ {l : List Int}, l.Pairwise (· < ·) → risingB l = true
  | [], _ => rfl
  | [x], _ => rfl
  | x :: y :: r, h => by
    have h1 := List.pairwise_cons.1 h
    simp only [risingB, Bool.and_eq_true, decide_eq_true_eq]
    exact ⟨h1.1 y (by simp), pair_rising h1.2⟩

theorem pair_ext : ∀ {l m : List Int}, l.Pairwise (· < ·) → m.Pairwise (· < ·) → (∀ x, x ∈ l ↔ x ∈ m) → l = m
  | [], [], _, _, _ => rfl
  | [], y :: m, _, _, h => by have := (h y).2 (by simp); simp at this
  | x :: l, [], _, _, h => by have := (h x).1 (by simp); simp at this
  | x :: l, y :: m, h1, h2, h => by
    have p1 := List.pairwise_cons.1 h1
    have p2 := List.pairwise_cons.1 h2
    have e : x = y := by
      rcases List.mem_cons.1 ((h x).1 (by simp)) with e | hx
      · exact e
      · rcases List.mem_cons.1 ((h y).2 (by simp)) with e | hy
        · exact e.symm
        · have := p1.1 y hy
          have := p2.1 x hx
          omega
    subst e
    congr 1
    refine pair_ext p1.2 p2.2 fun z => ?_
    constructor
    · intro hz
      rcases List.mem_cons.1 ((h z).1 (List.mem_cons_of_mem _ hz)) with e | hz2
      · have := p1.1 z hz; omega
      · exact hz2
    · intro hz
      rcases List.mem_cons.1 ((h z).2 (List.mem_cons_of_mem _ hz)) with e | hz2
      · have := p2.1 z hz; omega
      · exact hz2

theorem fl_pair (n : Nat) (P : Nat → Bool) : (cs (fl n P)).Pairwise (· < ·) := by
  unfold cs fl
  rw [List.pairwise_map]
  refine List.Pairwise.filter _ ?_
  have := List.pairwise_lt_range (n := n)
  exact this.imp fun h => by omega

theorem setB_form {n : Nat} {l : List Int} (h : isSetB n l = true) : l = cs (fl n fun x => decide ((x : Int) ∈ l)) := by
  unfold isSetB at h
  rw [Bool.and_eq_true] at h
  refine pair_ext (rising_pair h.2) (fl_pair _ _) fun x => ?_
  constructor
  · intro hx
    have h1 := List.all_eq_true.1 h.1 x hx
    unfold inB at h1
    rw [decide_eq_true_eq] at h1
    have e : x = ((x.toNat : Nat) : Int) := by omega
    rw [e, cs_mem, fl_mem]
    refine ⟨by omega, decide_eq_true ?_⟩
    rw [← e]; exact hx
  · intro hx
    unfold cs at hx
    obtain ⟨y, hy, e⟩ := List.mem_map.1 hx
    have := (fl_mem.1 hy).2
    rw [decide_eq_true_eq] at this
    exact e ▸ this

theorem fl_setB (n : Nat) (P : Nat → Bool) : isSetB n (cs (fl n P)) = true := by
  unfold isSetB
  rw [Bool.and_eq_true]
  refine ⟨List.all_eq_true.2 fun x hx => ?_, pair_rising (fl_pair n P)⟩
  unfold cs at hx
  obtain ⟨y, hy, e⟩ := List.mem_map.1 hx
  have := (fl_mem.1 hy).1
  unfold inB
  exact decide_eq_true (by omega)

theorem pos_form {p : PT} (h : ∀ r ∈ p.1, isSetB p.1.length r = true) : p = pos p.1.length (leP p) := by
  unfold pos
  refine Prod.ext ?_ rfl
  refine eq_mkR rfl fun i hi => ?_
  refine (setB_form (h _ (List.getElem_mem hi))).trans ?_
  refine congrArg cs (fl_congr fun x hx => ?_)
  unfold leP
  simp [hi]

theorem pos_len (n : Nat) (le : Nat → Nat → Bool) : (pos n le).1.length = n := mkR_len n _

theorem pos_rows (n : Nat) (le : Nat → Nat → Bool) : ∀ r ∈ (pos n le).1, isSetB (pos n le).1.length r = true := by
  intro r hr
  rw [pos_len]
  obtain ⟨i, _, e⟩ := mkR_mem.1 hr
  exact e ▸ fl_setB _ _

theorem leP_pos {n : Nat} {le : Nat → Nat → Bool} {x y : Nat} (hx : x < n) (hy : y < n) : leP (pos n le) x y = le x y := by
  unfold leP pos
  simp only [List.getD_eq_getElem?_getD, get_mkR hy, Option.getD_some, cs_mem, fl_mem, hx, true_and, Bool.decide_eq_true]

theorem Ord.congr {n : Nat} {le le' : Nat → Nat → Bool} (e : ∀ x y, x < n → y < n → le x y = le' x y) (h : Ord n le) : Ord n le' where
  refl x hx := by rw [← e x x hx hx]; exact h.refl x hx
  anti x y hx hy hxy h1 := by rw [← e y x hy hx]; rw [← e x y hx hy] at h1; exact h.anti x y hx hy hxy h1
  trans x y z hx hy hz h1 h2 := by
    rw [← e x z hx hz]; rw [← e x y hx hy] at h1; rw [← e y z hy hz] at h2
    exact h.trans x y z hx hy hz h1 h2

theorem good_pos {n : Nat} {le : Nat → Nat → Bool} : Good (pos n le) ↔ n ≤ 10 ∧ Ord n le := by
  have e : ∀ x y, x < n → y < n → leP (pos n le) x y = le x y := fun x y hx hy => leP_pos hx hy
  constructor
  · intro h
    have h1 := h.len; have h2 := h.ord
    rw [pos_len] at h1 h2
    exact ⟨h1, h2.congr e⟩
  · intro h
    refine ⟨by rw [pos_len]; exact h.1, pos_rows n le, ?_⟩
    rw [pos_len]
    exact h.2.congr fun x y hx hy => (e x y hx hy).symm

theorem Good.form {p : PT} (h : Good p) : p = pos p.1.length (leP p) := pos_form h.rows

theorem newOrder_eq {n : Nat} (h : n ≤ 4294967296) : zz29 big (n : Int) = some (mkT n fun _ _ => false, ()) := by
  unfold zz29 zz29_s
  rw [mkI_mkR h, Option.bind_some, Option.bind_some, cdt (by omega), mkR_len]
  refine zz29_h3 n (fun i o => o = mkR n fun x => if x < i then mkR n fun _ => false else []) (by omega) ?_ ?_ 0 (by omega) _ (by simp)
  · intro rc i o hi hv ih
    unfold zz29_b3
    rw [cdt (by omega), mkI_mkR h, Option.bind_some, Option.bind_some, cdt (by omega), hv, atI_mkR hi, Option.bind_some, Int.toNat_natCast, get_mkR hi, Option.bind_some, wr1 (by omega)]
    refine ih _ ?_
    rw [mkR_set]
    refine mkR_congr fun x hx => ?_
    by_cases h1 : x = i
    · rw [if_pos h1, if_pos (by omega)]
    · rw [if_neg h1]
      by_cases h2 : x < i
      · rw [if_pos h2, if_pos (by omega)]
      · rw [if_neg h2, if_neg (by omega)]
  · intro rc o hv
    unfold zz29_b3
    rw [cdf (by omega), hv, zz29_a3]
    congr 2
    exact mkR_congr fun x hx => by rw [if_pos hx]

theorem isOrder_eq {n : Nat} {le : Nat → Nat → Bool} (hn : n ≤ 4294967296) : zz32 big (mkT n le) = some (tv (Ord n le), ()) := by
  unfold zz32 zz32_s
  rw [mkR_len]
  refine zz32_h2 n (fun i => ∀ x, x < i → le x x = true ∧ (∀ y, y < n → (x ≠ y → le x y = true → le y x = false) ∧ ∀ z, z < n → le x y = true → le y z = true → le x z = true)) (by omega) ?_ ?_ 0 (by omega) (by intro x hx; omega)
  · intro rc i hi hv ih
    unfold zz32_b2
    rw [cdt (by omega), atI_mkR hi, Option.bind_some, atI_mkR hi, Option.bind_some, mkR_len]
    cases h0 : le i i with
    | false =>
      rw [tv_f fun h => by rw [h.refl i hi] at h0; cases h0]
      rfl
    | true =>
      rw [Bool.not_true, cond_false]
      refine zz32_h7 n (fun j => ∀ y, y < j → (i ≠ y → le i y = true → le y i = false) ∧ ∀ z, z < n → le i y = true → le y z = true → le i z = true) (by omega) ?_ ?_ 0 (by omega) (by intro x hx; omega)
      · intro rc2 j hj hv2 ih2
        have inn : (i ≠ j → le i j = true → le j i = false) → zz32_F12 big rc2 (zz32_a7 rc) (mkT n le) (i : Int) (j : Int) (n : Int) (i : Int) (n : Int) (j : Int) (n : Int) ((0 : Nat) : Int) = some (tv (Ord n le), ()) := by
          intro hij
          refine zz32_h12 n (fun k => ∀ z, z < k → le i j = true → le j z = true → le i z = true) (by omega) ?_ ?_ 0 (by omega) (by intro x hx; omega)
          · intro rc3 k hk hv3 ih3
            unfold zz32_b12
            simp only [cdt (show (k : Int) < (n : Int) by omega), atI_mkR hi, atI_mkR hj, atI_mkR hk, Option.bind_some, wr1 (show k ≤ 4611686018427387904 by omega)]
            cases h1 : le i j with
            | false => exact ih3 (all_lt_succ.2 ⟨hv3, by intro h; rw [h1] at h; cases h⟩)
            | true =>
              cases h2 : le j k with
              | false => exact ih3 (all_lt_succ.2 ⟨hv3, by intro _ h; rw [h2] at h; cases h⟩)
              | true =>
                cases h3 : le i k with
                | false =>
                  rw [tv_f fun h => by rw [h.trans i j k hi hj hk h1 h2] at h3; cases h3]
                  rfl
                | true => exact ih3 (all_lt_succ.2 ⟨hv3, fun _ _ => h3⟩)
          · intro rc3 hv3
            unfold zz32_b12
            rw [cdf (by omega), zz32_a12, wr1 (by omega)]
            exact ih2 (all_lt_succ.2 ⟨hv2, hij, hv3⟩)
        unfold zz32_b7
        rw [cdt (by omega), atI_mkR hi, Option.bind_some, atI_mkR hj, Option.bind_some, atI_mkR hj, Option.bind_some, atI_mkR hi, Option.bind_some, mkR_len]
        by_cases hij : i = j
        · rw [cdf (by omega)]
          exact inn fun h => absurd hij h
        · rw [cdt (by omega)]
          cases h1 : le i j with
          | false => exact inn fun _ h => by rw [h1] at h; cases h
          | true =>
            cases h2 : le j i with
            | false => exact inn fun _ _ => h2
            | true =>
              rw [tv_f fun h => by rw [h.anti i j hi hj hij h1] at h2; cases h2]
              rfl
      · intro rc2 hv2
        unfold zz32_b7
        rw [cdf (by omega), zz32_a7, wr1 (by omega)]
        exact ih (all_lt_succ.2 ⟨hv, h0, hv2⟩)
  · intro rc hv
    unfold zz32_b2
    rw [cdf (by omega), zz32_a2, tv_t]
    exact ⟨fun x hx => (hv x hx).1, fun x y hx hy => ((hv x hx).2 y hy).1, fun x y z hx hy hz => ((hv x hx).2 y hy).2 z hz⟩

theorem mkT_set {α : Type} {n : Nat} {f : Nat → Nat → α} {x y : Nat} {v : α} : (mkT n f).set x ((mkR n (f x)).set y v) = mkT n fun a b => if a = x ∧ b = y then v else f a b := by
  rw [mkR_set]
  refine mkR_congr fun a ha => ?_
  by_cases h : a = x
  · subst h
    rw [if_pos rfl, mkR_set]
    exact mkR_congr fun b hb => by simp
  · rw [if_neg h]
    exact mkR_congr fun b hb => by simp [h]

theorem orderOf_eq (p : PT) (hl : p.1.length ≤ 10) (hx : ∀ r ∈ p.1, r.length ≤ 4294967296) :
    zz33 big p = some (@ite _ (∀ r ∈ p.1, isSetB p.1.length r = true) (Classical.propDecidable _) (mkT p.1.length (leP p), tv (Ord p.1.length (leP p)), ()) ([], false, ()), ()) := by
  unfold zz33 zz33_s
  generalize hn : p.1.length = n
  rw [cdf (by omega), newOrder_eq (by omega), Option.bind_some]
  refine zz33_h6 n (fun i o => (∀ j, j < i → ∀ (h : j < p.1.length), isSetB n p.1[j] = true) ∧ o = mkT n fun a b => decide (b < i) && leP p a b) (by omega) ?_ ?_ 0 (by omega) _ ⟨by intro j hj; omega, mkT_congr fun a b _ _ => by simp⟩
  · intro rc i o hi hv ih
    obtain ⟨hv1, hv2⟩ := hv
    unfold zz33_b6
    have hip : i < p.1.length := by omega
    have hrow := hx _ (List.getElem_mem hip)
    rw [cdt (by omega), atI_lt _ i hip, Option.bind_some, rises_eq _ (by omega), Option.bind_some]
    cases h1 : risingB p.1[i] with
    | false =>
      rw [if_neg fun h => by have := h _ (List.getElem_mem hip); unfold isSetB at this; rw [h1, Bool.and_false] at this; cases this]
      rfl
    | true =>
      rw [Bool.not_true, cond_false, inSize_eq n _ (by omega), Option.bind_some]
      cases h2 : p.1[i].all (inB n) with
      | false =>
        rw [if_neg fun h => by have := h _ (List.getElem_mem hip); unfold isSetB at this; rw [h2, Bool.false_and] at this; cases this]
        rfl
      | true =>
        rw [Bool.not_true, cond_false]
        have hset : isSetB n p.1[i] = true := by unfold isSetB; rw [h1, h2]; rfl
        have hle : ∀ a, leP p a i = decide ((a : Int) ∈ p.1[i]) := by intro a; unfold leP; simp [hip]
        have hform := setB_form hset
        have hS : ∀ a, a ∈ fl n (fun x => decide ((x : Int) ∈ p.1[i])) ↔ a < n ∧ leP p a i = true := by
          intro a; rw [fl_mem, hle]
        generalize fl n (fun x => decide ((x : Int) ∈ p.1[i])) = S at hform hS
        rw [hform, cs_len]
        refine zz33_h11 S.length (fun k o => o = mkT n fun a b => if b < i then leP p a b else decide (b = i ∧ a ∈ S.take k)) ?_ ?_ ?_ 0 (by omega) _ ?_
        · have := congrArg List.length hform
          rw [cs_len] at this
          have := hx _ (List.getElem_mem hip)
          omega
        · intro rc2 k o2 hk hv3 ih2
          have hkn : S[k] < n := ((hS _).1 (List.getElem_mem hk)).1
          have hkS : S.length ≤ 4294967296 := by have := congrArg List.length hform; rw [cs_len] at this; omega
          unfold zz33_b11
          simp only [cdt (show (k : Int) < (S.length : Int) by omega), atI_cs hk, Option.bind_some, hv3, atI_mkR hkn, Int.toNat_natCast, get_mkR hkn, atI_mkR hi, get_mkR hi, wr1 (show k ≤ 4611686018427387904 by omega)]
          refine ih2 _ ?_
          rw [mkT_set]
          refine mkT_congr fun a b _ _ => ?_
          by_cases hb : b < i
          · rw [if_pos hb, if_pos hb, if_neg (by omega)]
          · rw [if_neg hb, if_neg hb]
            simp only [mem_take_succ hk]
            by_cases hbi : b = i
            · by_cases ha : a = S[k]
              · simp [hbi, ha]
              · simp [hbi, ha]
            · simp [hbi]
        · intro rc2 o2 hv3
          unfold zz33_b11
          rw [cdf (by omega), zz33_a11, wr1 (by omega)]
          refine ih _ ⟨fun j hj hjp => ?_, ?_⟩
          · rcases Nat.lt_or_ge j i with h | h
            · exact hv1 j h hjp
            · have : j = i := by omega
              subst this; exact hset
          · rw [hv3]
            refine mkT_congr fun a b ha _ => ?_
            by_cases hb : b < i
            · rw [if_pos hb]; simp [show b < i + 1 by omega]
            · rw [if_neg hb, List.take_length]
              by_cases hbi : b = i
              · subst hbi
                rw [decide_eq_true (show b < b + 1 by omega), Bool.true_and]
                cases h : leP p a b with
                | true => exact decide_eq_true ⟨rfl, (hS a).2 ⟨ha, h⟩⟩
                | false => exact decide_eq_false fun h3 => by rw [((hS a).1 h3.2).2] at h; cases h
              · simp [hbi, show ¬ b < i + 1 by omega]
        · rw [hv2]
          refine mkT_congr fun a b _ _ => ?_
          by_cases hb : b < i
          · simp [hb]
          · simp [hb]
  · intro rc o hv
    obtain ⟨hv1, hv2⟩ := hv
    unfold zz33_b6
    have ho : o = mkT n (leP p) := by rw [hv2]; exact mkT_congr fun a b _ hb => by simp [hb]
    rw [cdf (by omega), zz33_a6, ho, isOrder_eq (by omega), Option.bind_some, if_pos]
    intro r hr
    obtain ⟨j, hj, e⟩ := List.getElem_of_mem hr
    exact e ▸ hv1 j (by omega) hj

theorem orderOf_bad (p : PT) (hl : ¬ p.1.length ≤ 10) : zz33 big p = some (([], false, ()), ()) := by
  unfold zz33 zz33_s
  rw [cdt (by omega)]

theorem orderOf_no (p : PT) (hx : ∀ r ∈ p.1, r.length ≤ 4294967296) (h : ¬ Good p) : ∃ T, zz33 big p = some ((T, false, ()), ()) := by
  by_cases hl : p.1.length ≤ 10
  · rw [orderOf_eq p hl hx]
    by_cases hr : ∀ r ∈ p.1, isSetB p.1.length r = true
    · rw [if_pos hr, tv_f fun ho => h ⟨hl, hr, ho⟩]
      exact ⟨_, rfl⟩
    · rw [if_neg hr]
      exact ⟨_, rfl⟩
  · exact ⟨_, orderOf_bad p hl⟩

theorem orderOf_pos {n : Nat} {le : Nat → Nat → Bool} (hn : n ≤ 10) (ho : Ord n le) : zz33 big (pos n le) = some ((mkT n le, true, ()), ()) := by
  have e : ∀ x y, x < n → y < n → leP (pos n le) x y = le x y := fun x y hx hy => leP_pos hx hy
  rw [orderOf_eq _ (by rw [pos_len]; exact hn) ?_, if_pos (pos_rows n le), pos_len, tv_t (ho.congr fun x y hx hy => (e x y hx hy).symm)]
  · congr 3
    exact mkT_congr fun x y hx hy => e x y hx hy
  · intro r hr
    obtain ⟨i, _, h⟩ := mkR_mem.1 hr
    rw [← h, cs_len]
    have := fl_len n fun x => le x i
    omega

theorem atI_pos {n x : Nat} {le : Nat → Nat → Bool} (hx : x < n) : atI (pos n le).1 (x : Int) = some (cs (fl n fun a => le a x)) := atI_mkR hx

theorem l23Leq_pos {n x y : Nat} {le : Nat → Nat → Bool} (hn : n ≤ 4294967296) (hx : x < n) (hy : y < n) : zz11 (pos n le) (x : Int) (y : Int) = some (le x y, ()) := by
  unfold zz11 zz11_s
  have := fl_len n fun a => le a y
  rw [atI_pos hy, Option.bind_some, l1Has_cs _ _ (by omega), Option.bind_some]
  congr 2
  rw [Bool.eq_iff_iff, decide_eq_true_eq, fl_mem]
  simp [hx]

theorem within_fl {n : Nat} {P Q : Nat → Bool} (hn : n ≤ 4294967296) : zz9 big (cs (fl n P)) (cs (fl n Q)) = some (tv (∀ x, x < n → P x = true → Q x = true), ()) := by
  have h1 := fl_len n P
  have h2 := fl_len n Q
  rw [l5Within_eq _ _ (by rw [cs_len]; omega) (by rw [cs_len]; omega)]
  congr 2
  refine tv_congr ⟨fun h x hx hp => ?_, fun h x hx => ?_⟩
  · exact (fl_mem.1 (cs_mem.1 (h _ (cs_mem.2 (fl_mem.2 ⟨hx, hp⟩))))).2
  · unfold cs at hx
    obtain ⟨y, hy, e⟩ := List.mem_map.1 hx
    have := fl_mem.1 hy
    rw [← e]
    exact cs_mem.2 (fl_mem.2 ⟨this.1, h y this.1 this.2⟩)

theorem specPoset_eq (p : PT) (hx : ∀ r ∈ p.1, r.length ≤ 4294967296) : zz10 big p = some (tv (Good p), ()) := by
  unfold zz10 zz10_s
  by_cases hl : p.1.length ≤ 10
  · generalize hn : p.1.length = n
    rw [cdf (by omega)]
    refine zz10_h5 n (fun i => ∀ j, j < i → ∀ (h : j < p.1.length), isSetB n p.1[j] = true ∧ leP p j j = true) (by omega) ?_ ?_ 0 (by omega) (by intro j hj; omega)
    · intro rc i hi hv ih
      have hip : i < p.1.length := by omega
      have hrow := hx _ (List.getElem_mem hip)
      have hle : ∀ a, leP p a i = decide ((a : Int) ∈ p.1[i]) := by intro a; unfold leP; simp [hip]
      unfold zz10_b5
      rw [cdt (by omega), atI_lt _ i hip, Option.bind_some, wr (by omega) (by omega), specRising_eq n _ (by omega) (by omega), Option.bind_some]
      cases h1 : isSetB n p.1[i] with
      | false =>
        rw [tv_f fun h => by have := h.rows _ (List.getElem_mem hip); rw [hn, h1] at this; cases this]
        rfl
      | true =>
        rw [Bool.not_true, cond_false, Option.bind_some, l1Has_eq _ _ hrow, Option.bind_some, ← hle]
        cases h2 : leP p i i with
        | false =>
          rw [tv_f fun h => by have := h.ord.refl i hip; rw [h2] at this; cases this]
          rfl
        | true =>
          rw [Bool.not_true, cond_false, wr1 (by omega)]
          refine ih fun j hj hjp => ?_
          rcases Nat.lt_or_ge j i with h | h
          · exact hv j h hjp
          · have : j = i := by omega
            subst this; exact ⟨h1, h2⟩
    · intro rc hv
      unfold zz10_b5
      rw [cdf (by omega), zz10_a5]
      have hrows : ∀ r ∈ p.1, isSetB p.1.length r = true := by
        intro r hr
        obtain ⟨j, hj, e⟩ := List.getElem_of_mem hr
        rw [hn]
        exact e ▸ (hv j (by omega) hj).1
      have hform := pos_form hrows
      have hrefl : ∀ x, x < n → leP p x x = true := fun x hxn => (hv x hxn (by omega)).2
      generalize leP p = le at hform hrefl
      rw [hn] at hform
      subst hform
      rw [tv_congr good_pos]
      refine zz10_h10 n (fun i => ∀ x, x < i → ∀ y, y < n → le y x = true → (y ≠ x → le x y = false) ∧ ∀ z, z < n → le z y = true → le z x = true) (by omega) ?_ ?_ 0 (by omega) (by intro j hj; omega)
      · intro rc2 i hi hv2 ih2
        unfold zz10_b10
        rw [cdt (by omega)]
        have hS : ∀ a, a ∈ fl n (fun a => le a i) ↔ a < n ∧ le a i = true := fun a => fl_mem
        have hSl := fl_len n fun a => le a i
        refine zz10_h13 (fl n fun a => le a i).length (fun k => ∀ y ∈ (fl n fun a => le a i).take k, (y ≠ i → le i y = false) ∧ ∀ z, z < n → le z y = true → le z i = true) (by omega) ?_ ?_ 0 (by omega) (by simp)
        · intro rc3 k hk hv3 ih3
          have hk2 := (hS _).1 (List.getElem_mem hk)
          have hk3 := atI_cs hk
          have hk4 : ∀ {P : Nat → Prop}, (∀ y ∈ (fl n fun a => le a i).take (k + 1), P y) ↔ _ := all_take_succ hk
          unfold zz10_b13
          generalize (fl n fun a => le a i)[k] = y at hk2 hk3 hk4
          have hkl := fl_len n fun a => le a y
          simp only [atI_pos hi, Option.bind_some, cs_len, cdt (show (k : Int) < ((fl n fun a => le a i).length : Int) by omega), hk3, atI_pos hk2.1, l1Has_cs (fl n fun a => le a y) i (by omega), within_fl (P := fun a => le a y) (Q := fun a => le a i) (show n ≤ 4294967296 by omega), wr1 (show k ≤ 4611686018427387904 by omega)]
          have e1 : decide (i ∈ fl n fun a => le a y) = le i y := by
            rw [Bool.eq_iff_iff, decide_eq_true_eq, fl_mem]; simp [hi]
          rw [e1]
          have key : (y ≠ i → le i y = false) → cond (!tv (∀ x, x < n → le x y = true → le x i = true)) (some (false, ())) (rc3 (pos n le) (n : Int) (i : Int) ((k + 1 : Nat) : Int)) = some (tv (n ≤ 10 ∧ Ord n le), ()) := by
            intro h1
            by_cases h2 : ∀ x, x < n → le x y = true → le x i = true
            · rw [tv_t h2]
              exact ih3 (hk4.2 ⟨hv3, h1, h2⟩)
            · rw [tv_f h2, tv_f fun h => h2 fun x hxn h3 => h.2.trans _ _ _ hxn hk2.1 hi h3 hk2.2]
              rfl
          by_cases h1 : y = i
          · rw [cdf (by omega)]
            exact key fun h => absurd h1 h
          · rw [cdt (by omega)]
            cases h2 : le i y with
            | true =>
              rw [tv_f (P := n ≤ 10 ∧ Ord n le) fun h => by rw [h.2.anti _ _ hk2.1 hi h1 hk2.2] at h2; cases h2]
              rfl
            | false =>
              rw [cond_false]
              exact key fun _ => h2
        · intro rc3 hv3
          rw [List.take_length] at hv3
          unfold zz10_b13
          rw [atI_pos hi, Option.bind_some, cs_len, cdf (by omega), zz10_a13, wr1 (by omega)]
          exact ih2 (all_lt_succ.2 ⟨hv2, fun y hy hyi => hv3 y ((hS y).2 ⟨hy, hyi⟩)⟩)
      · intro rc2 hv2
        unfold zz10_b10
        rw [cdf (by omega), zz10_a10, tv_t]
        refine ⟨by rw [pos_len] at hl; exact hl, fun x hx => hrefl x hx, fun x y hx hy hxy h => ((hv2 y hy x hx h).1 hxy), fun x y z hx hy hz h1 h2 => (hv2 z hz y hy h2).2 x hx h1⟩
  · rw [cdt (by omega), tv_f fun h => hl h.len]

abbrev du (le : Nat → Nat → Bool) : Nat → Nat → Bool := fun x y => le y x

def low (n : Nat) (le : Nat → Nat → Bool) (S : List Nat) : List Nat := fl n fun z => S.all fun s => le z s

def grt (le : Nat → Nat → Bool) (L : List Nat) : Int := match L.find? fun x => L.all fun y => le y x with
  | some x => (x : Int)
  | none => -1

def bnd (n : Nat) (le : Nat → Nat → Bool) (S : List Nat) : Int := grt le (low n le S)

structure IsGlb (n : Nat) (le : Nat → Nat → Bool) (S : List Nat) (m : Nat) : Prop where
  lt : m < n
  lo : ∀ s ∈ S, le m s = true
  gr : ∀ z, z < n → (∀ s ∈ S, le z s = true) → le z m = true

theorem low_mem {n : Nat} {le : Nat → Nat → Bool} {S : List Nat} {z : Nat} : z ∈ low n le S ↔ z < n ∧ ∀ s ∈ S, le z s = true := by
  unfold low
  rw [fl_mem, List.all_eq_true]

theorem glb_of_bnd {n : Nat} {le : Nat → Nat → Bool} {S : List Nat} (h : 0 ≤ bnd n le S) : IsGlb n le S (bnd n le S).toNat := by
  unfold bnd grt at *
  cases hf : (low n le S).find? fun x => (low n le S).all fun y => le y x with
  | none => rw [hf] at h; exact absurd h (by decide)
  | some x =>
    have h1 := List.find?_some hf
    have h2 := low_mem.1 (List.mem_of_find?_eq_some hf)
    simp only [Int.toNat_natCast]
    exact ⟨h2.1, h2.2, fun z hz hs => List.all_eq_true.1 h1 z (low_mem.2 ⟨hz, hs⟩)⟩

theorem glb_unique {n : Nat} {le : Nat → Nat → Bool} (ho : Ord n le) {S : List Nat} {m k : Nat} (h : IsGlb n le S m) (h2 : IsGlb n le S k) : m = k := by
  by_cases e : m = k
  · exact e
  · have h3 := h.gr k h2.lt h2.lo
    have h4 := h2.gr m h.lt h.lo
    have := ho.anti m k h.lt h2.lt e h4
    rw [this] at h3; cases h3

theorem bnd_of_glb {n : Nat} {le : Nat → Nat → Bool} (ho : Ord n le) {S : List Nat} {m : Nat} (h : IsGlb n le S m) : bnd n le S = (m : Int) := by
  have h0 : 0 ≤ bnd n le S := by
    unfold bnd grt
    cases hf : (low n le S).find? fun x => (low n le S).all fun y => le y x with
    | none =>
      have := List.find?_eq_none.1 hf m (low_mem.2 ⟨h.lt, h.lo⟩)
      exact absurd (List.all_eq_true.2 fun y hy => h.gr y (low_mem.1 hy).1 (low_mem.1 hy).2) this
    | some x => simp
  have := glb_unique ho (glb_of_bnd h0) h
  omega

theorem greatest_eq {n : Nat} {le : Nat → Nat → Bool} {L : List Nat} (hL : ∀ x ∈ L, x < n) (hl : L.length ≤ 4294967296) : zz34 big (mkT n le) (cs L) = some (grt le L, ()) := by
  unfold zz34 zz34_s
  rw [cs_len]
  refine zz34_h2 L.length (fun i => ∀ x ∈ L.take i, ¬ (L.all fun y => le y x) = true) (by omega) ?_ ?_ 0 (by omega) (by simp)
  · intro rc i hi hv ih
    have hx := hL _ (List.getElem_mem hi)
    have hh := @find_hit _ L (fun x => L.all fun y => le y x) i hi hv
    have hn := fun h => ih ((all_take_succ hi).2 ⟨hv, h⟩)
    unfold zz34_b2
    rw [cdt (by omega), atI_cs hi, Option.bind_some, cs_len]
    generalize L[i] = x at hx hh hn
    refine zz34_h6 L.length (fun k b => b = (L.take k).all fun y => le y x) (by omega) ?_ ?_ 0 (by omega) _ rfl
    · intro rc2 k b hk hb ih2
      have hy := hL _ (List.getElem_mem hk)
      have ht := @all_take _ L k hk fun y => le y x
      have ha := atI_cs hk
      unfold zz34_b6
      rw [cdt (by omega), ha, Option.bind_some, wr1 (by omega)]
      generalize L[k] = y at hy ht
      cases b with
      | false => exact ih2 _ (by rw [ht, ← hb]; rfl)
      | true =>
        rw [cond_true, atI_mkR hy, Option.bind_some, atI_mkR hx, Option.bind_some]
        exact ih2 _ (by rw [ht, ← hb]; rfl)
    · intro rc2 b hb
      rw [List.take_length] at hb
      unfold zz34_b6
      rw [cdf (by omega), zz34_a6, hb]
      cases h : L.all fun y => le y x with
      | true =>
        rw [cond_true]
        unfold grt
        rw [hh h]
      | false =>
        rw [cond_false, wr1 (by omega)]
        exact hn (by rw [h]; simp)
  · intro rc hv
    rw [List.take_length] at hv
    unfold zz34_b2
    rw [cdf (by omega), zz34_a2]
    unfold grt
    rw [List.find?_eq_none.2 hv]

theorem low2 {n : Nat} {le : Nat → Nat → Bool} {x y : Nat} : low n le [x, y] = fl n fun z => le z x && le z y := by
  unfold low
  congr 1; funext z; simp

theorem those_meet {n : Nat} {le : Nat → Nat → Bool} (hn : n ≤ 1048576) {x y : Nat} (hx : x < n) (hy : y < n) : zz36 big (mkT n le) (mkT n le, (x : Int), (y : Int), ()) = some (cs (low n le [x, y]), ()) := by
  unfold zz36 zz36_s
  rw [mkR_len, low2]
  refine zz36_h3 n (fun i l => l = cs (fl i fun z => le z x && le z y)) (by omega) ?_ ?_ 0 (by omega) _ rfl
  · intro rc i l hi hv ih
    have hl := fl_len i fun z => le z x && le z y
    unfold zz36_b3 zz35 zz35_s
    simp only [cdt (show (i : Int) < (n : Int) by omega), atI_mkR hi, atI_mkR hx, atI_mkR hy, Option.bind_some, wr1 (show i ≤ 4611686018427387904 by omega)]
    cases h1 : le i x with
    | false => exact ih _ (by rw [hv]; exact fl_f (P := fun z => le z x && le z y) (by simp [h1]))
    | true =>
      simp only [cond_true, Option.bind_some]
      cases h2 : le i y with
      | false => exact ih _ (by rw [hv]; exact fl_f (P := fun z => le z x && le z y) (by simp [h1, h2]))
      | true =>
        rw [cond_true, app1 (by rw [hv, cs_len]; omega), Option.bind_some]
        exact ih _ (by rw [hv]; exact fl_t (P := fun z => le z x && le z y) (by simp [h1, h2]))
  · intro rc l hv
    unfold zz36_b3
    rw [cdf (by omega), zz36_a3, hv]

theorem low_lt {n : Nat} {le : Nat → Nat → Bool} {S : List Nat} : ∀ x ∈ low n le S, x < n := fun x hx => (low_mem.1 hx).1

theorem low_len {n : Nat} {le : Nat → Nat → Bool} {S : List Nat} : (low n le S).length ≤ n := fl_len _ _

theorem meetTable_eq {n : Nat} {le : Nat → Nat → Bool} (hn : n ≤ 1048576) : zz37 big (mkT n le) = some (@ite _ (∀ x y, x < n → y < n → 0 ≤ bnd n le [x, y]) (Classical.propDecidable _) (mkT n fun x y => bnd n le [x, y], true, ()) ([], false, ()), ()) := by
  unfold zz37 zz37_s
  rw [mkR_len]
  refine zz37_h3 n (fun i t => t = (mkR i fun x => mkR n fun y => bnd n le [x, y]) ∧ ∀ x, x < i → ∀ y, y < n → 0 ≤ bnd n le [x, y]) (by omega) ?_ ?_ 0 (by omega) _ ⟨rfl, by intro x hx; omega⟩
  · intro rc i t hi hv ih
    unfold zz37_b3
    rw [cdt (by omega), mkR_len]
    refine zz37_h7 n (fun j r => r = (mkR j fun y => bnd n le [i, y]) ∧ ∀ y, y < j → 0 ≤ bnd n le [i, y]) (by omega) ?_ ?_ 0 (by omega) _ ⟨rfl, by intro x hx; omega⟩
    · intro rc2 j r hj hr ih2
      unfold zz37_b7
      rw [cdt (by omega), those_meet hn hi hj, Option.bind_some, greatest_eq low_lt (by have := @low_len n le [i, j]; omega), Option.bind_some]
      show cond (decide (bnd n le [i, j] < 0)) _ ((appI r [bnd n le [i, j]]).bind _) = _
      by_cases h : 0 ≤ bnd n le [i, j]
      · rw [cdf (by omega), app1 (by rw [hr.1, mkR_len]; omega), Option.bind_some, wr1 (by omega)]
        exact ih2 _ ⟨by rw [hr.1]; exact (mkR_succ j _).symm, all_lt_succ.2 ⟨hr.2, h⟩⟩
      · rw [cdt (by omega), if_neg fun h2 => h (h2 i j hi hj)]
    · intro rc2 r hr
      unfold zz37_b7
      rw [cdf (by omega), zz37_a7, app1 (by rw [hv.1, mkR_len]; omega), Option.bind_some, wr1 (by omega)]
      refine ih _ ⟨?_, all_lt_succ.2 ⟨hv.2, hr.2⟩⟩
      rw [hv.1, hr.1]
      exact (mkR_succ i fun x => mkR n fun y => bnd n le [x, y]).symm
  · intro rc t hv
    unfold zz37_b3
    rw [cdf (by omega), zz37_a3, if_pos fun x y hx hy => hv.2 x hx y hy, hv.1]

theorem dual_eq {n : Nat} {le : Nat → Nat → Bool} (hn : n ≤ 1048576) : zz38 big (mkT n le) = some (mkT n (du le), ()) := by
  unfold zz38 zz38_s
  rw [mkR_len, newOrder_eq (by omega), Option.bind_some]
  refine zz38_h3 n (fun i d => d = mkT n fun a b => decide (a < i) && le b a) (by omega) ?_ ?_ 0 (by omega) _ (mkT_congr fun a b _ _ => by simp)
  · intro rc i d hi hv ih
    unfold zz38_b3
    rw [cdt (by omega), mkR_len]
    refine zz38_h6 n (fun j d => d = mkT n fun a b => (decide (a < i) || decide (a = i) && decide (b < j)) && le b a) (by omega) ?_ ?_ 0 (by omega) _ (by rw [hv]; exact mkT_congr fun a b _ _ => by simp)
    · intro rc2 j d2 hj hv2 ih2
      unfold zz38_b6
      generalize hf : (fun a b => (decide (a < i) || decide (a = i) && decide (b < j)) && le b a) = f at hv2
      simp only [cdt (show (j : Int) < (n : Int) by omega), hv2, atI_mkR hi, get_mkR hi, Option.bind_some, atI_mkR hj, get_mkR hj, Int.toNat_natCast, wr1 (show j ≤ 4611686018427387904 by omega)]
      refine ih2 _ ?_
      rw [mkT_set, ← hf]
      refine mkT_congr fun a b _ _ => ?_
      by_cases h1 : a = i
      · subst h1
        by_cases h2 : b = j
        · subst h2; simp
        · rw [if_neg fun h => h2 h.2, show decide (b < j + 1) = decide (b < j) from decide_eq_decide.2 (by omega)]
      · rw [if_neg fun h => h1 h.1]; simp [h1]
    · intro rc2 d2 hv2
      unfold zz38_b6
      rw [cdf (by omega), zz38_a6, wr1 (by omega)]
      refine ih _ ?_
      rw [hv2]
      refine mkT_congr fun a b _ hb => ?_
      congr 1
      rw [decide_eq_true hb, Bool.and_true, ← Bool.decide_or]
      exact decide_eq_decide.2 (by omega)
  · intro rc d hv
    unfold zz38_b3
    rw [cdf (by omega), zz38_a3, hv]
    congr 2
    exact mkT_congr fun a b ha _ => by simp [ha]

structure Lat (n : Nat) (le : Nat → Nat → Bool) : Prop where
  ne : 0 < n
  meet : ∀ x y, x < n → y < n → 0 ≤ bnd n le [x, y]
  join : ∀ x y, x < n → y < n → 0 ≤ bnd n (du le) [x, y]

def mt (n : Nat) (le : Nat → Nat → Bool) (x y : Nat) : Nat := (bnd n le [x, y]).toNat

def gb (n : Nat) (le : Nat → Nat → Bool) (S : List Nat) : Nat := (bnd n le S).toNat

def lat (n : Nat) (le : Nat → Nat → Bool) : List (List Bool) × List (List Int) × List (List Int) × Unit :=
  (mkT n le, mkT n (fun x y => ((mt n le x y : Nat) : Int)), mkT n (fun x y => ((mt n (du le) x y : Nat) : Int)), ())

structure LatP (n : Nat) (le : Nat → Nat → Bool) : Prop where
  le10 : n ≤ 10
  ord : Ord n le
  lat : Lat n le

theorem latticeOf_pos {n : Nat} {le : Nat → Nat → Bool} (h : LatP n le) : zz39 (pos n le) = some ((some (lat n le), true, ()), ()) := by
  have h10 := h.le10
  have h0 := h.lat.ne
  unfold zz39 zz39_s
  simp only [orderOf_pos h.le10 h.ord, Option.bind_some, Bool.not_true, cond_false, mkR_len, cdf (show ¬ ((n : Int) = 0) by omega), meetTable_eq (le := le) (show n ≤ 1048576 by omega), dual_eq (le := le) (show n ≤ 1048576 by omega), meetTable_eq (le := du le) (show n ≤ 1048576 by omega)]
  rw [if_pos h.lat.meet, if_pos h.lat.join]
  simp only [cond_true]
  have e1 : (mkT n fun x y => bnd n le [x, y]) = mkT n fun x y => ((mt n le x y : Nat) : Int) := mkT_congr fun x y hx hy => by
    have := h.lat.meet x y hx hy
    unfold mt; omega
  have e2 : (mkT n fun x y => bnd n (du le) [x, y]) = mkT n fun x y => ((mt n (du le) x y : Nat) : Int) := mkT_congr fun x y hx hy => by
    have := h.lat.join x y hx hy
    unfold mt; omega
  rw [e1, e2]
  rfl

theorem latticeOf_no {p : PT} (hx : ∀ r ∈ p.1, r.length ≤ 4294967296) (h : ¬ (Good p ∧ Lat p.1.length (leP p))) : ∃ l, zz39 p = some ((l, false, ()), ()) := by
  by_cases hg : Good p
  · have hf := hg.form
    have ho := hg.ord
    have h10 := hg.len
    replace h : ¬ Lat p.1.length (leP p) := fun hl => h ⟨hg, hl⟩
    generalize p.1.length = n at *
    generalize leP p = le at *
    subst hf
    unfold zz39 zz39_s
    simp only [orderOf_pos h10 ho, Option.bind_some, Bool.not_true, cond_false, mkR_len, meetTable_eq (le := le) (show n ≤ 1048576 by omega), dual_eq (le := le) (show n ≤ 1048576 by omega), meetTable_eq (le := du le) (show n ≤ 1048576 by omega)]
    by_cases h0 : n = 0
    · rw [cdt (by omega)]
      exact ⟨_, rfl⟩
    · rw [cdf (by omega)]
      by_cases h1 : ∀ x y, x < n → y < n → 0 ≤ bnd n le [x, y]
      · rw [if_pos h1]
        by_cases h2 : ∀ x y, x < n → y < n → 0 ≤ bnd n (du le) [x, y]
        · exact absurd ⟨by omega, h1, h2⟩ h
        · rw [if_neg h2]
          exact ⟨_, rfl⟩
      · rw [if_neg h1]
        exact ⟨_, rfl⟩
  · obtain ⟨T, hT⟩ := orderOf_no p hx hg
    unfold zz39 zz39_s
    rw [hT, Option.bind_some]
    exact ⟨_, rfl⟩

theorem specDual_pos {n : Nat} {le : Nat → Nat → Bool} (hn : n ≤ 1048576) : zz12 big (pos n le) = some (pos n (du le), ()) := by
  unfold zz12 zz12_s
  refine zz12_h3 n (fun i o => o.1 = mkR i fun y => cs (fl n fun x => le y x)) (by omega) ?_ ?_ 0 (by omega) _ rfl
  · intro rc i o hi hv ih
    unfold zz12_b3
    rw [pos_len, cdt (by omega)]
    refine zz12_h7 n (fun j l => l = cs (fl j fun x => le i x)) (by omega) ?_ ?_ 0 (by omega) _ rfl
    · intro rc2 j l hj hl ih2
      have hlen := fl_len j fun x => le i x
      unfold zz12_b7
      rw [pos_len, cdt (by omega), l23Leq_pos (by omega) hi hj, Option.bind_some, wr1 (by omega)]
      cases h : le i j with
      | true =>
        rw [cond_true, app1 (by rw [hl, cs_len]; omega), Option.bind_some]
        exact ih2 _ (by rw [hl]; exact fl_t (P := fun x => le i x) h)
      | false => exact ih2 _ (by rw [hl]; exact fl_f (P := fun x => le i x) h)
    · intro rc2 l hl
      unfold zz12_b7
      rw [pos_len, cdf (by omega), zz12_a7, app1 (by rw [hv, mkR_len]; omega), Option.bind_some, wr1 (by omega)]
      exact ih _ (by rw [hl]; show o.1 ++ _ = _; rw [hv]; exact (mkR_succ i fun y => cs (fl n fun x => le y x)).symm)
  · intro rc o hv
    unfold zz12_b3
    rw [pos_len, cdf (by omega), zz12_a3]
    unfold pos
    congr 2
    exact Prod.ext hv rfl

theorem specBound_pos {n : Nat} {le : Nat → Nat → Bool} (hn : n ≤ 1048576) {S : List Nat} (hS : ∀ s ∈ S, s < n) (hSl : S.length ≤ 4294967296) : zz13 big (pos n le) (cs S) = some (bnd n le S, ()) := by
  unfold zz13 zz13_s
  refine zz13_h3 n (fun i l => l = cs (fl i fun z => S.all fun s => le z s)) (by omega) ?_ ?_ 0 (by omega) _ rfl
  · intro rc i l hi hv ih
    have hlen := fl_len i fun z => S.all fun s => le z s
    unfold zz13_b3
    rw [pos_len, cdt (by omega)]
    refine zz13_h7 S.length (fun k b => b = (S.take k).all fun s => le i s) (by omega) ?_ ?_ 0 (by omega) _ rfl
    · intro rc2 k b hk hb ih2
      have hs := hS _ (List.getElem_mem hk)
      have ht := @all_take _ S k hk fun s => le i s
      have ha := atI_cs hk
      unfold zz13_b7
      rw [cs_len, cdt (by omega), ha, Option.bind_some, wr1 (by omega)]
      generalize S[k] = s at hs ht
      rw [l23Leq_pos (by omega) hi hs, Option.bind_some]
      cases b with
      | true => exact ih2 _ (by rw [ht, ← hb]; rfl)
      | false => exact ih2 _ (by rw [ht, ← hb]; rfl)
    · intro rc2 b hb
      rw [List.take_length] at hb
      unfold zz13_b7
      rw [cs_len, cdf (by omega), zz13_a7, wr1 (by omega)]
      cases b with
      | true =>
        rw [cond_true, app1 (by rw [hv, cs_len]; omega), Option.bind_some]
        exact ih _ (by rw [hv]; exact fl_t (P := fun z => S.all fun s => le z s) hb.symm)
      | false => exact ih _ (by rw [hv]; exact fl_f (P := fun z => S.all fun s => le z s) hb.symm)
  · intro rc l hv
    unfold zz13_b3
    rw [pos_len, cdf (by omega), zz13_a3]
    replace hv : l = cs (low n le S) := hv
    rw [hv]
    have hll := @low_len n le S
    unfold bnd
    have hlt := @low_lt n le S
    have hfl : low n le S = fl n fun z => S.all fun s => le z s := rfl
    have hw : ∀ x, x < n → zz9 big (cs (low n le S)) (cs (fl n fun a => le a x)) = some ((low n le S).all fun y => le y x, ()) := by
      intro x hx
      rw [hfl, within_fl (by omega), ← hfl]
      congr 2
      exact tv_eq (by rw [List.all_eq_true]; exact ⟨fun h y hy hp => h y (fl_mem.2 ⟨hy, hp⟩), fun h y hy => h y (fl_mem.1 hy).1 (fl_mem.1 hy).2⟩)
    generalize low n le S = L at *
    refine zz13_h13 L.length (fun i => ∀ x ∈ L.take i, ¬ (L.all fun y => le y x) = true) (by omega) ?_ ?_ 0 (by omega) (by simp)
    · intro rc2 i hi hv2 ih2
      have hx := hlt _ (List.getElem_mem hi)
      have hh := @find_hit _ L (fun x => L.all fun y => le y x) i hi hv2
      have hn2 := fun h => ih2 ((all_take_succ hi).2 ⟨hv2, h⟩)
      have ha := atI_cs hi
      have hg := get_cs hi
      unfold zz13_b13
      simp only [cs_len, cdt (show (i : Int) < (L.length : Int) by omega), ha, Option.bind_some, Int.toNat_natCast, hg, wr1 (show i ≤ 4611686018427387904 by omega)]
      generalize L[i] = x at hx hh hn2
      rw [atI_pos hx, Option.bind_some, hw x hx, Option.bind_some]
      cases h : L.all fun y => le y x with
      | true =>
        rw [cond_true]
        unfold grt
        rw [hh h]
      | false =>
        rw [cond_false]
        exact hn2 (by rw [h]; simp)
    · intro rc2 hv2
      rw [List.take_length] at hv2
      unfold zz13_b13
      rw [cs_len, cdf (by omega), zz13_a13]
      unfold grt
      rw [List.find?_eq_none.2 hv2]

theorem bnd_swap {n : Nat} {le : Nat → Nat → Bool} (x y : Nat) : bnd n le [x, y] = bnd n le [y, x] := by
  unfold bnd
  congr 1
  unfold low
  congr 1; funext z; simp [Bool.and_comm]

theorem Ord.du {n : Nat} {le : Nat → Nat → Bool} (h : Ord n le) : Ord n (du le) where
  refl := h.refl
  anti x y hx hy hxy h1 := by
    have h3 : le y x = true := h1
    show le x y = false
    by_cases h2 : le x y = true
    · rw [h.anti x y hx hy hxy h2] at h3; cases h3
    · simpa using h2
  trans x y z hx hy hz h1 h2 := h.trans z y x hz hy hx h2 h1

theorem bnd_self {n : Nat} {le : Nat → Nat → Bool} (ho : Ord n le) {x : Nat} (hx : x < n) : bnd n le [x, x] = (x : Int) :=
  bnd_of_glb ho ⟨hx, by simp [ho.refl x hx], fun z _ h => h x (by simp)⟩

theorem spec24_eq (p : PT) (hx : ∀ r ∈ p.1, r.length ≤ 4294967296) : zz14 big p = some (tv (Good p ∧ Lat p.1.length (leP p)), ()) := by
  unfold zz14 zz14_s
  rw [specPoset_eq p hx, Option.bind_some]
  by_cases hg : Good p
  · rw [tv_t hg]
    have e : (Good p ∧ Lat p.1.length (leP p)) ↔ Lat p.1.length (leP p) := ⟨fun h => h.2, fun h => ⟨hg, h⟩⟩
    rw [tv_congr e, Bool.not_true, cond_false]
    have hf := hg.form
    have ho := hg.ord
    have h10 := hg.len
    clear e hg hx
    generalize p.1.length = n at *
    generalize leP p = le at *
    subst hf
    by_cases h0 : n = 0
    · rw [cdt (by omega), tv_f fun h => by have := h.ne; omega]
    · rw [cdf (by omega), specDual_pos (by omega), Option.bind_some]
      have key : ∀ x y, x < n → y < n → (0 ≤ bnd n le [x, y] ↔ 0 ≤ bnd n le [y, x]) := fun x y _ _ => by rw [bnd_swap]
      refine zz14_h5 n (fun i => ∀ x, x < i → ∀ y, y < x → 0 ≤ bnd n le [x, y] ∧ 0 ≤ bnd n (du le) [x, y]) (by omega) ?_ ?_ 0 (by omega) (by intro x hx; omega)
      · intro rc i hi hv ih
        unfold zz14_b5
        rw [pos_len, cdt (by omega)]
        refine zz14_h8 i (fun j => ∀ y, y < j → 0 ≤ bnd n le [i, y] ∧ 0 ≤ bnd n (du le) [i, y]) (by omega) ?_ ?_ 0 (by omega) (by intro x hx; omega)
        · intro rc2 j hj hv2 ih2
          unfold zz14_b8
          have e : ([(i : Int), (j : Int)] : List Int) = cs [i, j] := rfl
          have hS : ∀ s ∈ [i, j], s < n := by intro s hs; simp at hs; omega
          rw [cdt (by omega), e, specBound_pos (by omega) hS (by simp), Option.bind_some, specBound_pos (le := du le) (by omega) hS (by simp), Option.bind_some]
          by_cases h1 : 0 ≤ bnd n le [i, j]
          · rw [cdf (by omega)]
            by_cases h2 : 0 ≤ bnd n (du le) [i, j]
            · rw [cdf (by omega), wr1 (by omega)]
              exact ih2 (all_lt_succ.2 ⟨hv2, h1, h2⟩)
            · rw [cdt (by omega), tv_f fun h => h2 (h.join i j hi (by omega))]
          · rw [cdt (by omega), tv_f fun h => h1 (h.meet i j hi (by omega))]
        · intro rc2 hv2
          unfold zz14_b8
          rw [cdf (by omega), zz14_a8, wr1 (by omega)]
          exact ih (all_lt_succ.2 ⟨hv, hv2⟩)
      · intro rc hv
        unfold zz14_b5
        rw [pos_len, cdf (by omega), zz14_a5, tv_t]
        refine ⟨by omega, fun x y hx hy => ?_, fun x y hx hy => ?_⟩
        · rcases Nat.lt_trichotomy x y with h | h | h
          · rw [bnd_swap]; exact (hv y hy x h).1
          · subst h; rw [bnd_self ho hx]; omega
          · exact (hv x hx y h).1
        · rcases Nat.lt_trichotomy x y with h | h | h
          · rw [bnd_swap]; exact (hv y hy x h).2
          · subst h; rw [bnd_self ho.du hx]; omega
          · exact (hv x hx y h).2
  · rw [tv_f hg, tv_f fun h => hg h.1]
    rfl

theorem lat_cases {p : PT} (hx : ∀ r ∈ p.1, r.length ≤ 4294967296) : (∃ n le, p = pos n le ∧ LatP n le ∧ zz14 big p = some (true, ()) ∧ zz39 p = some ((some (lat n le), true, ()), ())) ∨
    (zz14 big p = some (false, ()) ∧ ∃ l, zz39 p = some ((l, false, ()), ())) := by
  by_cases h : Good p ∧ Lat p.1.length (leP p)
  · have hl : LatP p.1.length (leP p) := ⟨h.1.len, h.1.ord, h.2⟩
    refine .inl ⟨p.1.length, leP p, h.1.form, hl, by rw [spec24_eq p hx, tv_t h], ?_⟩
    have := latticeOf_pos hl
    rw [← h.1.form] at this
    exact this
  · exact .inr ⟨by rw [spec24_eq p hx, tv_f h], latticeOf_no hx h⟩

theorem szIntS_eq (a : List Int) (l : Int) (h : a.length ≤ 9223372036854775807) (h0 : 0 ≤ l) (h1 : l ≤ 1048576) : ∃ v, zz0 a l = some (v, ()) ∧ v ≤ 1048576 ∧ (0 ≤ v → a.length ≤ 1048576) := by
  unfold zz0 zz0_s
  rw [wr (by omega) (by omega)]
  by_cases hl : l - (a.length : Int) < 0
  · rw [cdt hl]
    exact ⟨_, rfl, by omega, by omega⟩
  · rw [cdf hl]
    exact ⟨_, rfl, by omega, by omega⟩

theorem szIntSS_l (N : Nat) : ∀ (n : Nat) (a : List (List Int)) (l : Int) (i : Nat), a.length - i < n → i ≤ a.length → a.length ≤ 1048576 → 0 ≤ l → l ≤ 1048576 → (∀ x ∈ a, x.length ≤ 9223372036854775807) →
    ∃ v, zz1_l5 N zz1_a5 n a l i = some (v, ()) ∧ v ≤ 1048576 ∧ (0 ≤ v → ∀ x ∈ a.drop i, x.length ≤ 1048576)
  | 0, _, _, _, h, _, _, _, _, _ => by omega
  | n + 1, a, l, i, h, hi, hb, h0, h1, hx => by
    simp only [zz1_l5, zz1_b5]
    by_cases hlt : i < a.length
    · obtain ⟨v, hv, hv1, hv2⟩ := szIntS_eq _ l (hx _ (List.getElem_mem hlt)) h0 h1
      rw [cdt (by omega), atI_lt a i hlt, Option.bind_some, hv, Option.bind_some, wr1 (by omega)]
      by_cases hl : v < 0
      · rw [cdt hl]
        exact ⟨_, rfl, by omega, by omega⟩
      · rw [cdf hl]
        obtain ⟨w, hw, hw1, hw2⟩ := szIntSS_l N n a v (i + 1) (by omega) (by omega) hb (by omega) hv1 hx
        refine ⟨w, hw, hw1, fun h x hx' => ?_⟩
        rw [List.drop_eq_getElem_cons hlt] at hx'
        rcases List.mem_cons.1 hx' with rfl | hx'
        · exact hv2 (by omega)
        · exact hw2 h x hx'
    · rw [cdf (by omega), List.drop_eq_nil_of_le (by omega)]
      exact ⟨_, rfl, h1, by simp⟩

theorem szIntSS_eq (a : List (List Int)) (l : Int) (ha : a.length ≤ 9223372036854775807) (hx : ∀ x ∈ a, x.length ≤ 9223372036854775807) (h0 : 0 ≤ l) (h1 : l ≤ 1048576) : ∃ v, zz1 big a l = some (v, ()) ∧ v ≤ 1048576 ∧ (0 ≤ v → a.length ≤ 1048576 ∧ ∀ x ∈ a, x.length ≤ 1048576) := by
  have hb := big_ge
  unfold zz1 zz1_s
  rw [wr (by omega) (by omega)]
  by_cases h : l - (a.length : Int) < 0
  · rw [cdt h]
    exact ⟨_, rfl, by omega, by omega⟩
  · rw [cdf h]
    unfold zz1_F5
    obtain ⟨v, hv, hv1, hv2⟩ := szIntSS_l big big a (l - a.length) 0 (by omega) (by omega) (by omega) (by omega) (by omega) hx
    exact ⟨v, hv, hv1, fun h0 => ⟨by omega, by simpa using hv2 h0⟩⟩

def SmallP (p : PT) : Prop := p.1.length ≤ 1048576 ∧ ∀ r ∈ p.1, r.length ≤ 1048576

theorem szPoset_eq (p : PT) (l : Int) (hw : Wf (.pair (.sl (.sl I)) .unit) p) (h0 : 0 ≤ l) (h1 : l ≤ 1048576) : ∃ v, zz2 p l = some (v, ()) ∧ v ≤ 1048576 ∧ (0 ≤ v → SmallP p) := by
  simp only [Wf, maxLen] at hw
  obtain ⟨v, hv, hv1, hv2⟩ := szIntSS_eq p.1 l hw.1.1 (fun x hx => (hw.1.2 x hx).1) h0 h1
  unfold zz2 zz2_s
  rw [hv, Option.bind_some]
  by_cases h : v < 0
  · rw [cdt h]
    exact ⟨_, rfl, by omega, by omega⟩
  · rw [cdf h]
    exact ⟨_, rfl, hv1, hv2⟩

theorem toIntSS_eq (a : List (List Int)) (h : a.length ≤ 4294967296) (hx : ∀ x ∈ a, x.length ≤ 4294967296) : zz4 big a = some (a, ()) := by
  unfold zz4 zz4_s
  rw [mkI_nat _ _ h, Option.bind_some, Option.bind_some, cdt (by omega)]
  refine zz4_h3 a.length (fun i o => o.length = a.length ∧ o.take i = a.take i) (by omega) ?_ ?_ 0 (by omega) _ ⟨by simp, rfl⟩
  · intro rc i o hi hv ih
    have ho : i < o.length := by omega
    unfold zz4_b3
    rw [cdt (by omega), atI_lt a i hi, Option.bind_some, toIntS_eq _ (hx _ (List.getElem_mem hi)), Option.bind_some, atI_lt o i ho, Option.bind_some, Int.toNat_natCast, List.getElem?_eq_getElem ho, Option.bind_some, wr1 (by omega)]
    refine ih _ ⟨by rw [List.length_set]; exact hv.1, ?_⟩
    rw [List.take_succ_eq_append_getElem (by rw [List.length_set]; exact ho), List.take_succ_eq_append_getElem hi, List.getElem_set_self, List.take_set, List.set_eq_of_length_le (by rw [List.length_take]; omega), hv.2]
  · intro rc o hv
    unfold zz4_b3
    have h1 := hv.2
    rw [List.take_length, ← hv.1, List.take_length] at h1
    rw [cdf (by omega), zz4_a3, h1]

theorem toPoset_eq {p : PT} (h : SmallP p) : zz5 p = some (p, ()) := by
  unfold zz5 zz5_s
  have := h.1
  rw [toIntSS_eq p.1 (by omega) fun x hx => by have := h.2 x hx; omega]
  rfl

theorem eqPoset_eq {p q : PT} (h : SmallP p) : zz57 p q = some (decide (p = q), ()) := by
  unfold zz57 zz57_s
  have := h.1
  rw [eqIntSS_eq p.1 q.1 (by omega) fun x hx => by have := h.2 x hx; omega]
  rw [Option.bind_some]
  by_cases e : p = q
  · subst e; simp
  · rw [decide_eq_false e, decide_eq_false fun h => e (Prod.ext h rfl)]; rfl

theorem SmallP.rows {p : PT} (h : SmallP p) : ∀ r ∈ p.1, r.length ≤ 4294967296 := fun r hr => by have := h.2 r hr; omega

theorem takes_cases {p : PT} (hx : ∀ r ∈ p.1, r.length ≤ 4294967296) : (∃ n le, p = pos n le ∧ LatP n le ∧ n ≤ 8 ∧ zz15 p = some (true, ()) ∧ zz40 p = some ((some (lat n le), true, ()), ())) ∨
    (zz15 p = some (false, ()) ∧ ∃ l, zz40 p = some ((l, false, ()), ())) := by
  unfold zz15 zz15_s zz40 zz40_s
  rcases lat_cases hx with ⟨n, le, e, hl, h1, h2⟩ | ⟨h1, l, h2⟩
  · rw [h1, h2, Option.bind_some, Option.bind_some]
    by_cases h8 : n ≤ 8
    · refine .inl ⟨n, le, e, hl, h8, ?_, ?_⟩
      · rw [e, pos_len, cdt (by omega)]
      · simp only [cond_true, Option.bind_some]
        unfold lat
        rw [mkR_len, decide_eq_true (by omega)]
    · refine .inr ⟨?_, some (lat n le), ?_⟩
      · rw [e, pos_len, cdf (by omega)]
      · simp only [cond_true, Option.bind_some]
        unfold lat
        rw [mkR_len, decide_eq_false (by omega)]
  · rw [h1, h2, Option.bind_some, Option.bind_some]
    refine .inr ⟨?_, l, rfl⟩
    by_cases h : (p.1.length : Int) ≤ 8
    · rw [cdt h]
    · rw [cdf h]

theorem LatP.du {n : Nat} {le : Nat → Nat → Bool} (h : LatP n le) : LatP n (du le) := ⟨h.le10, Ord.du h.ord, h.lat.ne, h.lat.join, h.lat.meet⟩

theorem LatP.glb {n : Nat} {le : Nat → Nat → Bool} (h : LatP n le) {x y : Nat} (hx : x < n) (hy : y < n) : IsGlb n le [x, y] (mt n le x y) := glb_of_bnd (h.lat.meet x y hx hy)

theorem LatP.mlt {n : Nat} {le : Nat → Nat → Bool} (h : LatP n le) {x y : Nat} (hx : x < n) (hy : y < n) : mt n le x y < n := (h.glb hx hy).lt

theorem LatP.m1 {n : Nat} {le : Nat → Nat → Bool} (h : LatP n le) {x y : Nat} (hx : x < n) (hy : y < n) : le (mt n le x y) x = true := (h.glb hx hy).lo x (by simp)

theorem LatP.m2 {n : Nat} {le : Nat → Nat → Bool} (h : LatP n le) {x y : Nat} (hx : x < n) (hy : y < n) : le (mt n le x y) y = true := (h.glb hx hy).lo y (by simp)

theorem LatP.mg {n : Nat} {le : Nat → Nat → Bool} (h : LatP n le) {x y z : Nat} (hx : x < n) (hy : y < n) (hz : z < n) (h1 : le z x = true) (h2 : le z y = true) : le z (mt n le x y) = true :=
  (h.glb hx hy).gr z hz (by simp [h1, h2])

theorem LatP.tr {n : Nat} {le : Nat → Nat → Bool} (h : LatP n le) {x y z : Nat} (hx : x < n) (hy : y < n) (hz : z < n) (h1 : le x y = true) (h2 : le y z = true) : le x z = true := h.ord.trans x y z hx hy hz h1 h2

theorem topEx {n : Nat} {le : Nat → Nat → Bool} (h : LatP n le) : ∃ t, IsGlb n le [] t := by
  have key : ∀ i, i ≤ n → ∃ t, t < n ∧ ∀ x, x < i → le x t = true := by
    intro i
    induction i with
    | zero => exact fun _ => ⟨0, h.lat.ne, by intro x hx; omega⟩
    | succ i ih =>
      intro hi
      obtain ⟨t, ht, h1⟩ := ih (by omega)
      have hin : i < n := by omega
      refine ⟨mt n (Yteamfbmkphjcjaa.du le) t i, h.du.mlt ht hin, all_lt_succ.2 ⟨fun x hx => ?_, h.du.m2 ht hin⟩⟩
      exact h.tr (by omega) ht (h.du.mlt ht hin) (h1 x hx) (h.du.m1 ht hin)
  obtain ⟨t, ht, h1⟩ := key n (by omega)
  exact ⟨t, ht, by simp, fun z hz _ => h1 z hz⟩

theorem glbEx {n : Nat} {le : Nat → Nat → Bool} (h : LatP n le) : ∀ S : List Nat, (∀ s ∈ S, s < n) → ∃ m, IsGlb n le S m
  | [], _ => topEx h
  | s :: S, hS => by
    obtain ⟨m, hm⟩ := glbEx h S fun x hx => hS x (by simp [hx])
    have hs := hS s (by simp)
    refine ⟨mt n le s m, h.mlt hs hm.lt, fun x hx => ?_, fun z hz hx => ?_⟩
    · rcases List.mem_cons.1 hx with rfl | hx'
      · exact h.m1 hs hm.lt
      · exact h.tr (h.mlt hs hm.lt) hm.lt (hS x hx) (h.m2 hs hm.lt) (hm.lo x hx')
    · exact h.mg hs hm.lt hz (hx s (by simp)) (hm.gr z hz fun x hx' => hx x (by simp [hx']))

theorem LatP.gbs {n : Nat} {le : Nat → Nat → Bool} (h : LatP n le) {S : List Nat} (hS : ∀ s ∈ S, s < n) : IsGlb n le S (gb n le S) := by
  obtain ⟨m, hm⟩ := glbEx h S hS
  unfold gb
  rw [bnd_of_glb h.ord hm]
  exact hm

theorem LatP.bnds {n : Nat} {le : Nat → Nat → Bool} (h : LatP n le) {S : List Nat} (hS : ∀ s ∈ S, s < n) : bnd n le S = ((gb n le S : Nat) : Int) := bnd_of_glb h.ord (h.gbs hS)

theorem gb_eq {n : Nat} {le : Nat → Nat → Bool} (h : LatP n le) {S : List Nat} {m : Nat} (hm : IsGlb n le S m) : gb n le S = m := by
  unfold gb; rw [bnd_of_glb h.ord hm]; rfl

theorem noneLt {n : Nat} : ∀ s ∈ ([] : List Nat), s < n := fun s hs => by cases hs

theorem lat1 (n : Nat) (le : Nat → Nat → Bool) : (lat n le).1 = mkT n le := rfl

theorem lat2 (n : Nat) (le : Nat → Nat → Bool) : (lat n le).2.1 = mkT n fun x y => ((mt n le x y : Nat) : Int) := rfl

theorem lat3 (n : Nat) (le : Nat → Nat → Bool) : (lat n le).2.2.1 = mkT n fun x y => ((mt n (du le) x y : Nat) : Int) := rfl

theorem specBoundL {n : Nat} {le : Nat → Nat → Bool} (h : LatP n le) {S : List Nat} (hS : ∀ s ∈ S, s < n) (hl : S.length ≤ 4294967296) : zz13 big (pos n le) (cs S) = some (((gb n le S : Nat) : Int), ()) := by
  have := h.le10
  rw [specBound_pos (by omega) hS hl, h.bnds hS]

theorem top_eq {n : Nat} {le : Nat → Nat → Bool} (h : LatP n le) : zz48 big (some (lat n le)) = some (((gb n le [] : Nat) : Int), ()) := by
  have h10 := h.le10
  unfold zz48 zz48_s
  rw [Option.bind_some, lat1, mkR_len]
  refine zz48_h3 n (fun i t => ∃ k : Nat, t = (k : Int) ∧ k < n ∧ ∀ x, x < i → le x k = true) (by omega) ?_ ?_ 0 (by omega) _ ⟨0, rfl, h.lat.ne, by intro x hx; omega⟩
  · intro rc i t hi hv ih
    obtain ⟨k, e, hk, h1⟩ := hv
    subst e
    unfold zz48_b3
    rw [cdt (by omega), Option.bind_some, lat3, atI_mkR hk, Option.bind_some, atI_mkR hi, Option.bind_some, wr1 (by omega)]
    refine ih _ ⟨mt n (Yteamfbmkphjcjaa.du le) k i, rfl, h.du.mlt hk hi, all_lt_succ.2 ⟨fun x hx => ?_, h.du.m2 hk hi⟩⟩
    exact h.tr (by omega) hk (h.du.mlt hk hi) (h1 x hx) (h.du.m1 hk hi)
  · intro rc t hv
    obtain ⟨k, e, hk, h1⟩ := hv
    subst e
    unfold zz48_b3
    rw [cdf (by omega), zz48_a3, gb_eq h ⟨hk, by simp, fun z hz _ => h1 z hz⟩]

theorem bottom_eq {n : Nat} {le : Nat → Nat → Bool} (h : LatP n le) : zz50 big (some (lat n le)) = some (((gb n (du le) [] : Nat) : Int), ()) := by
  have h10 := h.le10
  unfold zz50 zz50_s
  rw [Option.bind_some, lat1, mkR_len]
  refine zz50_h3 n (fun i t => ∃ k : Nat, t = (k : Int) ∧ k < n ∧ ∀ x, x < i → le k x = true) (by omega) ?_ ?_ 0 (by omega) _ ⟨0, rfl, h.lat.ne, by intro x hx; omega⟩
  · intro rc i t hi hv ih
    obtain ⟨k, e, hk, h1⟩ := hv
    subst e
    unfold zz50_b3
    rw [cdt (by omega), Option.bind_some, lat2, atI_mkR hk, Option.bind_some, atI_mkR hi, Option.bind_some, wr1 (by omega)]
    refine ih _ ⟨mt n le k i, rfl, h.mlt hk hi, all_lt_succ.2 ⟨fun x hx => ?_, h.m2 hk hi⟩⟩
    exact h.tr (h.mlt hk hi) hk (by omega) (h.m1 hk hi) (h1 x hx)
  · intro rc t hv
    obtain ⟨k, e, hk, h1⟩ := hv
    subst e
    unfold zz50_b3
    rw [cdf (by omega), zz50_a3, gb_eq h.du ⟨hk, by simp, fun z hz _ => h1 z hz⟩]

theorem glb_snoc {n : Nat} {le : Nat → Nat → Bool} (h : LatP n le) {S : List Nat} {k s : Nat} (hS : ∀ s ∈ S, s < n) (hk : IsGlb n le S k) (hs : s < n) : IsGlb n le (S ++ [s]) (mt n le k s) where
  lt := h.mlt hk.lt hs
  lo x hx := by
    rcases List.mem_append.1 hx with hx | hx
    · exact h.tr (h.mlt hk.lt hs) hk.lt (hS x hx) (h.m1 hk.lt hs) (hk.lo x hx)
    · rw [List.mem_singleton.1 hx]; exact h.m2 hk.lt hs
  gr z hz hx := h.mg hk.lt hs hz (hk.gr z hz fun x hx' => hx x (by simp [hx'])) (hx s (by simp))

theorem meetAll_eq {n : Nat} {le : Nat → Nat → Bool} (h : LatP n le) {S : List Nat} (hS : ∀ s ∈ S, s < n) (hl : S.length ≤ 4294967296) : zz49 big (some (lat n le)) (cs S) = some (((gb n le S : Nat) : Int), ()) := by
  have h10 := h.le10
  unfold zz49 zz49_s
  rw [top_eq h, Option.bind_some, cs_len]
  refine zz49_h3 S.length (fun i t => ∃ k : Nat, t = (k : Int) ∧ IsGlb n le (S.take i) k) (by omega) ?_ ?_ 0 (by omega) _ ⟨_, rfl, h.gbs noneLt⟩
  · intro rc i t hi hv ih
    obtain ⟨k, e, hk⟩ := hv
    subst e
    have hs := hS _ (List.getElem_mem hi)
    unfold zz49_b3
    rw [cdt (by omega), atI_cs hi, Option.bind_some, Option.bind_some, lat2, atI_mkR hk.lt, Option.bind_some, atI_mkR hs, Option.bind_some, wr1 (by omega)]
    refine ih _ ⟨_, rfl, ?_⟩
    rw [List.take_succ_eq_append_getElem hi]
    exact glb_snoc h (fun s hs => hS s (List.mem_of_mem_take hs)) hk hs
  · intro rc t hv
    obtain ⟨k, e, hk⟩ := hv
    subst e
    rw [List.take_length] at hk
    unfold zz49_b3
    rw [cdf (by omega), zz49_a3, gb_eq h hk]

theorem markIntSS_ok (a : List (List Int)) (k : Int) (h : a.length ≤ 1048576) (hx : ∀ x ∈ a, x.length ≤ 1048576) (hk : 0 ≤ k) (hk2 : k ≤ 9000000000000) : ∃ v j, zz59 big a k = some (j, (v, ())) ∧ 0 ≤ j ∧ j ≤ k + 1048576 * 1048576 := by
  unfold zz59 zz59_s
  suffices H : ∀ (n : Nat) (b : List (List Int)) (i : Nat) (k2 : Int), b.length = a.length → (∀ x ∈ b.drop i, x.length ≤ 1048576) → i ≤ a.length → a.length - i < n → 0 ≤ k2 → k2 ≤ k + i * 1048576 → ∃ v j, zz59_l2 big zz59_a2 n b k2 i = some (j, (v, ())) ∧ 0 ≤ j ∧ j ≤ k + 1048576 * 1048576 from by
    have := big_ge
    exact H big a 0 k rfl (by simpa using hx) (by omega) (by omega) hk (by omega)
  intro n
  induction n with
  | zero => intro b i k2 _ _ _ hn; omega
  | succ n ih =>
    intro b i k2 hbl hb hi hn hk0 hk3
    simp only [zz59_l2, zz59_b2]
    by_cases hlt : i < a.length
    · have hlb : i < b.length := by omega
      have hbi : b[i].length ≤ 1048576 := hb _ (by rw [List.drop_eq_getElem_cons hlb]; exact List.mem_cons_self)
      rw [cdt (by omega), atI_lt b i hlb, Option.bind_some, Int.toNat_natCast, List.getElem?_eq_getElem hlb, Option.bind_some, Option.bind_some, markIntS_eq2 _ k2 (by omega) hk0 (by omega), Option.bind_some, Option.bind_some, Option.bind_some, wr1 (by omega)]
      refine ih _ (i + 1) _ (by rw [List.length_set]; exact hbl) ?_ (by omega) (by omega) (by omega) (by omega)
      rw [List.drop_set, if_pos (by omega)]
      intro x hx'
      exact hb x (by rw [List.drop_eq_getElem_cons hlb]; exact List.mem_cons_of_mem _ hx')
    · rw [cdf (by omega)]
      exact ⟨b, k2, rfl, hk0, by omega⟩

theorem markPoset_ok {p : PT} (h : SmallP p) (k : Int) (hk : 0 ≤ k) (hk2 : k ≤ 1048576) : ∃ v j, zz60 p k = some (j, (v, ())) ∧ 0 ≤ j ∧ j ≤ 10995116277760 := by
  obtain ⟨v, j, h1, h2, h3⟩ := markIntSS_ok p.1 k h.1 h.2 hk (by omega)
  unfold zz60
  rw [h1]
  exact ⟨_, _, rfl, h2, by omega⟩

abbrev bt (n : Nat) (le : Nat → Nat → Bool) : Nat := gb n (du le) []

theorem bt_lt {n : Nat} {le : Nat → Nat → Bool} (h : LatP n le) : bt n le < n := (h.du.gbs noneLt).lt

theorem bt_le {n : Nat} {le : Nat → Nat → Bool} (h : LatP n le) {x : Nat} (hx : x < n) : le (bt n le) x = true := (h.du.gbs noneLt).gr x hx (by simp)

theorem jlt {n : Nat} {le : Nat → Nat → Bool} (h : LatP n le) {x y : Nat} (hx : x < n) (hy : y < n) : mt n (du le) x y < n := h.du.mlt hx hy

theorem l1Same_eq (a b : List Int) (h : a.length ≤ 4294967296) : zz25 big a b = some (decide (a = b), ()) := by
  unfold zz25 zz25_s
  by_cases hl : a.length = b.length
  · rw [cdf (by omega)]
    refine zz25_h4 a.length (fun i => a.take i = b.take i) (by omega) ?_ ?_ 0 (by omega) rfl
    · intro rc i hi hv ih
      have hi2 : i < b.length := by omega
      unfold zz25_b4
      rw [cdt (by omega), atI_lt a i hi, Option.bind_some, atI_lt b i hi2, Option.bind_some, wr1 (by omega)]
      by_cases e : a[i] = b[i]
      · rw [cdf (by omega)]
        exact ih (by rw [List.take_succ_eq_append_getElem hi, List.take_succ_eq_append_getElem hi2, hv, e])
      · rw [cdt e, decide_eq_false fun h => by subst h; exact e rfl]
    · intro rc hv
      rw [List.take_length, hl, List.take_length] at hv
      unfold zz25_b4
      rw [cdf (by omega), zz25_a4, decide_eq_true hv]
  · rw [cdt (by omega), decide_eq_false fun h => hl (by rw [h])]

abbrev P2 := Int × Int × Unit

theorem eqA2_self (a : P2) : zz53 big a a = some (true, ()) := by
  unfold zz53 zz53_s
  refine zz53_h2 2 (fun _ => True) (by omega) ?_ ?_ 0 (by omega) trivial
  · intro rc i hi _ ih
    have : i = 0 ∨ i = 1 := by omega
    unfold zz53_b2
    rw [wr1 (by omega)]
    rcases this with rfl | rfl
    · simpa using ih trivial
    · simpa using ih trivial
  · intro rc _
    unfold zz53_b2
    rw [cdf (by omega), zz53_a2]

theorem eqA2S_self (l : List P2) (h : l.length ≤ 4294967296) : zz54 big l l = some (true, ()) := by
  unfold zz54 zz54_s
  rw [cdf (by omega)]
  refine zz54_h4 l.length (fun _ => True) (by omega) ?_ ?_ 0 (by omega) trivial
  · intro rc i hi _ ih
    unfold zz54_b4
    rw [cdt (by omega), atI_lt l i hi, Option.bind_some, Option.bind_some, eqA2_self, Option.bind_some, wr1 (by omega)]
    exact ih trivial
  · intro rc _
    unfold zz54_b4
    rw [cdf (by omega), zz54_a4]

def mk2 (k : Int) (n : Nat) : List P2 := mkR n fun i => (k + 2 * (i : Int), k + 2 * (i : Int) + 1, ())

theorem markA2S_eq (a : List P2) (k : Int) (h : a.length ≤ 4294967296) (hk : 0 ≤ k) (hk2 : k ≤ 1099511627776) : zz61 big a k = some (k + 2 * (a.length : Int), (mk2 k a.length, ())) := by
  generalize hm : a.length = m at h
  unfold zz61 zz61_s
  refine zz61_h2 m (fun i a' k' => k' = k + 2 * (i : Int) ∧ a'.length = m ∧ ∀ j, j < i → a'[j]? = some (k + 2 * (j : Int), k + 2 * (j : Int) + 1, ())) (by omega) ?_ ?_ 0 (by omega) _ _ ⟨by omega, hm, by intro j hj; omega⟩
  · intro rc i a' k' hi hv ih
    obtain ⟨hk', hl, hpre⟩ := hv
    have hil : i < a'.length := by omega
    unfold zz61_b2
    rw [cdt (by omega)]
    refine zz61_h5 2 (fun j b q => q = k' + (j : Int) ∧ b = (if j = 0 then a' else if j = 1 then a'.set i (k', (a'[i]).2) else a'.set i (k', k' + 1, ()))) (by omega) ?_ ?_ 0 (by omega) _ _ ⟨by omega, rfl⟩
    · intro rc2 j b q hj hb ih2
      obtain ⟨e1, e2⟩ := hb
      have hj2 : j = 0 ∨ j = 1 := by omega
      unfold zz61_b5
      rw [cdt (by omega), wr (by omega) (by omega), wr1 (by omega)]
      rcases hj2 with rfl | rfl
      · rw [if_pos rfl] at e2
        subst e2
        rw [atI_lt b i hil, Option.bind_some, cdt (by simp), Int.toNat_natCast, List.getElem?_eq_getElem hil, Option.bind_some, Option.bind_some]
        refine ih2 _ _ ⟨by omega, ?_⟩
        rw [if_neg (by omega), if_pos rfl, e1]
        simp
      · rw [if_neg (by omega), if_pos rfl] at e2
        subst e2
        have hil2 : i < (a'.set i (k', (a'[i]).2)).length := by rw [List.length_set]; exact hil
        rw [atI_lt _ i hil2, Option.bind_some, cdf (by simp), cdt (by simp), Int.toNat_natCast, List.getElem?_eq_getElem hil2, Option.bind_some, Option.bind_some]
        refine ih2 _ _ ⟨by omega, ?_⟩
        rw [if_neg (by omega), if_neg (by omega), List.getElem_set_self, List.set_set, e1]
        rfl
    · intro rc2 b q hb
      obtain ⟨e1, e2⟩ := hb
      rw [if_neg (by omega), if_neg (by omega)] at e2
      unfold zz61_b5
      rw [cdf (by omega), zz61_a5, wr1 (by omega)]
      refine ih _ _ ⟨by omega, by rw [e2, List.length_set]; exact hl, all_lt_succ.2 ⟨fun j hj => ?_, ?_⟩⟩
      · rw [e2, List.getElem?_set_ne (by omega)]
        exact hpre j hj
      · rw [e2, List.getElem?_set_self hil, hk']
  · intro rc a' k' hv
    obtain ⟨hk', hl, hpre⟩ := hv
    unfold zz61_b2
    rw [cdf (by omega), zz61_a2, hk']
    have : a' = mk2 k m := eq_mkR hl fun i hi => by
      have := hpre i (by omega)
      rw [List.getElem?_eq_getElem hi] at this
      exact Option.some.inj this
    rw [this]

theorem heldA2S_eq (k : Int) (m : Nat) (h : m ≤ 4294967296) (hk : 0 ≤ k) (hk2 : k ≤ 1099511627776) : zz62 big (mk2 k m) k = some (k + 2 * (m : Int), ()) := by
  unfold zz62 zz62_s
  refine zz62_h2 m (fun i q => q = k + 2 * (i : Int)) (by omega) ?_ ?_ 0 (by omega) _ (by omega)
  · intro rc i q hi hq ih
    have hat : atI (mk2 k m) (i : Int) = some (k + 2 * (i : Int), k + 2 * (i : Int) + 1, ()) := atI_mkR hi
    have hlen : (mk2 k m).length = m := mkR_len _ _
    unfold zz62_b2
    rw [hlen, cdt (by omega)]
    refine zz62_h5 2 (fun j q => q = k + 2 * (i : Int) + (j : Int)) (by omega) ?_ ?_ 0 (by omega) _ (by omega)
    · intro rc2 j q2 hj hq2 ih2
      have hj2 : j = 0 ∨ j = 1 := by omega
      unfold zz62_b5
      rw [cdt (by omega), hat, Option.bind_some, wr (by omega) (by omega), wr1 (by omega)]
      rcases hj2 with rfl | rfl
      · rw [cdt (by simp), cdf (by show ¬ ¬ _ ; simp only [Classical.not_not]; omega)]
        exact ih2 _ (by omega)
      · rw [cdf (by simp), cdt (by simp), cdf (by show ¬ ¬ _ ; simp only [Classical.not_not]; omega)]
        exact ih2 _ (by omega)
    · intro rc2 q2 hq2
      unfold zz62_b5
      rw [cdf (by omega), zz62_a5, wr1 (by omega)]
      exact ih _ (by omega)
  · intro rc q hq
    have hlen : (mk2 k m).length = m := mkR_len _ _
    unfold zz62_b2
    rw [hlen, cdf (by omega), zz62_a2, hq]

theorem fl_lt {n : Nat} {P Q : Nat → Bool} (h : ∀ x, x < n → P x = true → Q x = true) {y : Nat} (hy : y < n) (h1 : Q y = true) (h2 : P y = false) : (fl n P).length < (fl n Q).length := by
  have hm : (fl n P).Sublist (fl n Q) := by
    have e : fl n P = (fl n Q).filter P := by
      unfold fl
      rw [List.filter_filter]
      refine List.filter_congr fun x hx => ?_
      have := h x (List.mem_range.1 hx)
      cases hp : P x with
      | true => simp [this hp]
      | false => simp
    rw [e]; exact List.filter_sublist
  refine Nat.lt_of_le_of_ne hm.length_le fun e => ?_
  have := hm.eq_of_length e
  have hq := fl_inj this hy
  rw [h1, h2] at hq
  exact absurd hq (by simp)

def jnf (m : Nat) (le' : Nat → Nat → Bool) (S : List Nat) : Nat := S.foldl (fun j x => mt m (du le') j x) (bt m le')

theorem jnf_snoc (m : Nat) (le' : Nat → Nat → Bool) (S : List Nat) (x : Nat) : jnf m le' (S ++ [x]) = mt m (du le') (jnf m le' S) x := by unfold jnf; rw [List.foldl_append]; rfl

theorem jnf_lt {m : Nat} {le' : Nat → Nat → Bool} (h : LatP m le') {S : List Nat} (hS : ∀ s ∈ S, s < m) : jnf m le' S < m := by
  suffices hh : ∀ (S : List Nat) (j : Nat), j < m → (∀ s ∈ S, s < m) → S.foldl (fun j x => mt m (du le') j x) j < m from hh S _ (bt_lt h) hS
  intro S
  induction S with
  | nil => intro j hj _; exact hj
  | cons s S ih => intro j hj hS; exact ih _ (jlt h hj (hS s List.mem_cons_self)) fun t ht => hS t (List.mem_cons_of_mem _ ht)

theorem joinAll_eq {m : Nat} {le' : Nat → Nat → Bool} (h : LatP m le') {S : List Nat} (hS : ∀ s ∈ S, s < m) (hl : S.length ≤ 4294967296) : zz51 big (some (lat m le')) (cs S) = some ((jnf m le' S : Int), ()) := by
  unfold zz51 zz51_s
  rw [bottom_eq h, Option.bind_some, cs_len]
  refine zz51_h3 S.length (fun i j => j = ((jnf m le' (S.take i) : Nat) : Int)) (by omega) ?_ ?_ 0 (by omega) _ rfl
  · intro rc i j hi hj ih
    have l1 := jnf_lt h (S := S.take i) fun s hs => hS s (List.mem_of_mem_take hs)
    have l2 := hS _ (List.getElem_mem hi)
    unfold zz51_b3
    simp only [cdt (show (i : Int) < (S.length : Int) by omega), atI_cs hi, Option.bind_some, lat3, hj, atI_mkR l1, atI_mkR l2, wr1 (show i ≤ 4611686018427387904 by omega)]
    exact ih _ (by rw [List.take_succ_eq_append_getElem hi, jnf_snoc])
  · intro rc j hj
    rw [List.take_length] at hj
    unfold zz51_b3
    rw [cdf (by omega), zz51_a3, hj]

abbrev OpT := Int × List Int × Unit

abbrev AlT := Int × List OpT × Unit

def flt (n : Nat) (f : Nat → Nat → Int) : Nat → List Int
  | 0 => []
  | k + 1 => flt n f k ++ mkR n (f k)

theorem flt_len (n : Nat) (f : Nat → Nat → Int) : ∀ k, (flt n f k).length = k * n
  | 0 => by simp [flt]
  | k + 1 => by rw [flt, List.length_append, flt_len n f k, mkR_len, Nat.succ_mul]

theorem nn_le {i n : Nat} (h1 : i ≤ 10) (h2 : n ≤ 10) : i * n ≤ 100 := by
  have := Nat.mul_le_mul h1 h2; omega

theorem flatOp_eq {n : Nat} {f : Nat → Nat → Int} (h : n ≤ 10) : zz41 big (mkT n f) = some ((2, flt n f n, ()), ()) := by
  unfold zz41 zz41_s
  rw [mkR_len]
  refine zz41_h3 n (fun i o => o = ((2 : Int), flt n f i, ())) (by omega) ?_ ?_ 0 (by omega) _ rfl
  · intro rc i o hi hv ih
    have hl := flt_len n f i
    have hn := nn_le (i := i) (n := n) (by omega) h
    subst hv
    unfold zz41_b3
    have e : appI (flt n f i) (mkR n (f i)) = some (flt n f (i + 1)) := by
      unfold appI
      rw [if_pos (by rw [mkR_len]; omega)]; rfl
    simp only [cdt (show (i : Int) < (n : Int) by omega), atI_mkR hi, Option.bind_some, e, wr1 (show i ≤ 4611686018427387904 by omega)]
    exact ih _ rfl
  · intro rc o hv
    unfold zz41_b3
    rw [cdf (by omega), zz41_a3, hv]

abbrev meetF (n : Nat) (le : Nat → Nat → Bool) : Nat → Nat → Int := fun x y => ((mt n le x y : Nat) : Int)

def latAlg (n : Nat) (le : Nat → Nat → Bool) : AlT := ((n : Int), [(2, flt n (meetF n le) n, ()), (2, flt n (meetF n (du le)) n, ())], ())

theorem algebra_eq {n : Nat} {le : Nat → Nat → Bool} (h : LatP n le) : zz42 (some (lat n le)) = some (latAlg n le, ()) := by
  unfold zz42 zz42_s
  simp only [Option.bind_some, lat1, lat2, lat3, mkR_len, flatOp_eq h.le10]
  rfl

theorem specAlgebra_eq {n : Nat} {le : Nat → Nat → Bool} (h : LatP n le) : zz16 big (pos n le) = some (latAlg n le, ()) := by
  have h10 := h.le10
  unfold zz16 zz16_s
  rw [specDual_pos (by omega), Option.bind_some, pos_len]
  refine zz16_h5 n (fun i a b => a = ((2 : Int), flt n (meetF n le) i, ()) ∧ b = ((2 : Int), flt n (meetF n (du le)) i, ())) (by omega) ?_ ?_ 0 (by omega) _ _ ⟨rfl, rfl⟩
  · intro rc i a b hi hv ih
    obtain ⟨e1, e2⟩ := hv
    subst e1; subst e2
    have hl := flt_len n (meetF n le) i
    have hl2 := flt_len n (meetF n (du le)) i
    have hn := nn_le (i := i) (n := n) (by omega) h10
    unfold zz16_b5
    rw [cdt (by omega)]
    refine zz16_h8 n (fun j a b => a = ((2 : Int), flt n (meetF n le) i ++ mkR j (meetF n le i), ()) ∧ b = ((2 : Int), flt n (meetF n (du le)) i ++ mkR j (meetF n (du le) i), ())) (by omega) ?_ ?_ 0 (by omega) _ _ ⟨by rw [mkR_zero, List.append_nil], by rw [mkR_zero, List.append_nil]⟩
    · intro rc2 j a b hj hv2 ih2
      obtain ⟨e1, e2⟩ := hv2
      subst e1; subst e2
      have b1 : zz13 big (pos n le) [(i : Int), (j : Int)] = some (((mt n le i j : Nat) : Int), ()) := specBoundL h (S := [i, j]) (by intro s hs; simp at hs; omega) (by simp)
      have b2 : zz13 big (pos n (du le)) [(i : Int), (j : Int)] = some (((mt n (du le) i j : Nat) : Int), ()) := specBoundL h.du (S := [i, j]) (by intro s hs; simp at hs; omega) (by simp)
      unfold zz16_b8
      simp only [cdt (show (j : Int) < (n : Int) by omega), b1, b2, Option.bind_some]
      rw [app1 (by rw [List.length_append, mkR_len]; omega), Option.bind_some, app1 (by rw [List.length_append, mkR_len]; omega), Option.bind_some, wr1 (by omega)]
      exact ih2 _ _ ⟨by rw [mkR_succ, List.append_assoc], by rw [mkR_succ, List.append_assoc]⟩
    · intro rc2 a b hv2
      obtain ⟨e1, e2⟩ := hv2
      unfold zz16_b8
      rw [cdf (by omega), zz16_a8, wr1 (by omega)]
      exact ih _ _ ⟨e1, e2⟩
  · intro rc a b hv
    obtain ⟨e1, e2⟩ := hv
    unfold zz16_b5
    rw [cdf (by omega), zz16_a5, e1, e2]
    rfl

structure Pt (n : Nat) (P : Nat → Nat) : Prop where
  lo : ∀ x, x < n → P x ≤ x
  id : ∀ x, x < n → P (P x) = P x

theorem Pt.lt {n : Nat} {P : Nat → Nat} (h : Pt n P) {x : Nat} (hx : x < n) : P x < n := Nat.lt_of_le_of_lt (h.lo x hx) hx

def ptL (n : Nat) (P : Nat → Nat) : List Int := mkR n fun x => ((P x : Nat) : Int)

theorem ptL_len (n : Nat) (P : Nat → Nat) : (ptL n P).length = n := mkR_len _ _

def Lep (n : Nat) (P C : Nat → Nat) : Prop := ∀ x, x < n → C (P x) = C x

def uni (P : Nat → Nat) (x y z : Nat) : Nat := if P z = max (P x) (P y) then min (P x) (P y) else P z

def cls (n : Nat) (P : Nat → Nat) : Nat := (fl n fun x => decide (P x = x)).length

theorem Lep.refl {n : Nat} {P : Nat → Nat} (h : Pt n P) : Lep n P P := h.id

theorem Lep.trans {n : Nat} {P Q C : Nat → Nat} (h : Pt n P) (h1 : Lep n P Q) (h2 : Lep n Q C) : Lep n P C := fun x hx => by
  have e1 := h1 x hx
  have e2 := h2 (P x) (h.lt hx)
  have e3 := h2 x hx
  rw [← e2, e1, e3]

theorem Lep.eq {n : Nat} {P Q : Nat → Nat} (h : Pt n P) (h' : Pt n Q) (h1 : Lep n P Q) (h2 : Lep n Q P) {x : Nat} (hx : x < n) : P x = Q x := by
  have a1 := h1 x hx
  have a2 := h2 x hx
  have b1 := h'.lo (P x) (h.lt hx)
  have b2 := h.lo (Q x) (h'.lt hx)
  omega

theorem Lep.ker {n : Nat} {P C : Nat → Nat} (h : Lep n P C) {x y : Nat} (hx : x < n) (hy : y < n) (e : P x = P y) : C x = C y := by
  rw [← h x hx, ← h y hy, e]

theorem uni_pt {n : Nat} {P : Nat → Nat} (h : Pt n P) {x y : Nat} (hx : x < n) (hy : y < n) : Pt n (uni P x y) where
  lo := fun z hz => by
    have := h.lo z hz
    unfold uni; split <;> omega
  id := fun z hz => by
    have e1 := h.id x hx
    have e2 := h.id y hy
    have e3 := h.id z hz
    unfold uni
    by_cases c : P z = max (P x) (P y)
    · rw [if_pos c]
      rcases Nat.le_total (P x) (P y) with hl | hl
      · rw [Nat.min_eq_left hl, Nat.max_eq_right hl, e1]
        split <;> omega
      · rw [Nat.min_eq_right hl, Nat.max_eq_left hl, e2]
        split <;> omega
    · rw [if_neg c, e3, if_neg c]

theorem uni_le {n : Nat} {P C : Nat → Nat} (hp : Pt n P) (h : Lep n P C) {x y : Nat} (hx : x < n) (hy : y < n) (e : C x = C y) : Lep n (uni P x y) C := fun z hz => by
  have e1 := h x hx
  have e2 := h y hy
  have e3 := h z hz
  unfold uni
  by_cases c : P z = max (P x) (P y)
  · rw [if_pos c]
    rcases Nat.le_total (P x) (P y) with hl | hl
    · rw [Nat.max_eq_right hl] at c
      rw [Nat.min_eq_left hl, e1, ← e3, c, e2, e]
    · rw [Nat.max_eq_left hl] at c
      rw [Nat.min_eq_right hl, e2, ← e3, c, e1, e]
  · rw [if_neg c, e3]

theorem le_uni {n : Nat} {P : Nat → Nat} (hp : Pt n P) (x y : Nat) : Lep n P (uni P x y) := fun z hz => by
  unfold uni; rw [hp.id z hz]

theorem uni_eq (P : Nat → Nat) (x y : Nat) : uni P x y x = uni P x y y := by
  unfold uni
  rcases Nat.le_total (P x) (P y) with hl | hl
  · rw [Nat.min_eq_left hl, Nat.max_eq_right hl]
    split <;> simp_all
  · rw [Nat.min_eq_right hl, Nat.max_eq_left hl]
    split <;> simp_all

theorem uni_same {P : Nat → Nat} {x y : Nat} (e : P x = P y) (z : Nat) : uni P x y z = P z := by
  unfold uni; rw [e, Nat.max_self, Nat.min_self]; split <;> simp_all

theorem cls_lt {n : Nat} {P Q : Nat → Nat} (h : Pt n P) (h' : Pt n Q) (hl : Lep n P Q) {x : Nat} (hx : x < n) (hne : Q x ≠ P x) : cls n Q < cls n P := by
  refine fl_lt (fun z hz e => ?_) (h.lt hx) (decide_eq_true (h.id x hx)) (decide_eq_false fun e => hne ?_)
  · have e := of_decide_eq_true e
    have a1 := hl z hz
    have a2 := h.lo z hz
    have a3 := h'.lo (P z) (h.lt hz)
    exact decide_eq_true (by omega)
  · rw [← hl x hx, e]

theorem cls_le {n : Nat} (P : Nat → Nat) : cls n P ≤ n := fl_len _ _

theorem cls_congr {n : Nat} {P Q : Nat → Nat} (e : ∀ x, x < n → P x = Q x) : cls n P = cls n Q := by
  unfold cls; rw [fl_congr fun x hx => by rw [e x hx]]

theorem ptL_congr {n : Nat} {P Q : Nat → Nat} (e : ∀ x, x < n → P x = Q x) : ptL n P = ptL n Q := mkR_congr fun x hx => by rw [e x hx]

theorem ptL_inj {n : Nat} {P Q : Nat → Nat} (e : ptL n P = ptL n Q) {x : Nat} (hx : x < n) : P x = Q x := Int.ofNat.inj (mkR_inj e hx)

theorem unite_eq {n : Nat} {P : Nat → Nat} {x y : Nat} (hn : n ≤ 1048576) (hx : x < n) (hy : y < n) : zz45 big (ptL n P) (x : Int) (y : Int) = some (decide (P x ≠ P y), (ptL n (uni P x y), ())) := by
  unfold zz45 zz45_s
  have g : ∀ z, z < n → atI (ptL n P) (z : Int) = some ((P z : Nat) : Int) := fun z hz => atI_mkR hz
  have g2 : ∀ z, z < n → (ptL n P)[z]? = some ((P z : Nat) : Int) := fun z hz => get_mkR hz
  simp only [g x hx, g y hy, Int.toNat_natCast, g2 x hx, g2 y hy, Option.bind_some, ptL_len]
  by_cases e : P x = P y
  · rw [cdt (congrArg Nat.cast e), decide_eq_false (by simpa using e), ptL_congr fun z _ => uni_same e z]
  · rw [cdf (show ¬ ((P x : Nat) : Int) = ((P y : Nat) : Int) by omega), show decide (P x ≠ P y) = true from decide_eq_true e]
    have key : ∀ lo hi : Nat, lo = min (P x) (P y) → hi = max (P x) (P y) → zz45_F7 big (ptL n P) (lo : Int) (hi : Int) (n : Int) 0 = some (true, (ptL n (uni P x y), ())) := by
      intro lo hi e1 e2
      have hlh : lo ≠ hi := by omega
      refine zz45_h7 n (fun i q => q = mkR n fun z => ((if z < i then uni P x y z else P z : Nat) : Int)) (by omega) ?_ ?_ 0 (by omega) _ (mkR_congr fun z _ => by rw [if_neg (by omega)])
      · intro rc i q hi' hq ih
        subst hq
        unfold zz45_b7
        simp only [cdt (show (i : Int) < (n : Int) by omega), Int.toNat_natCast, atI_mkR hi', get_mkR hi', Option.bind_some, wr1 (show i ≤ 4611686018427387904 by omega), Nat.lt_irrefl, if_false]
        by_cases c : P i = hi
        · rw [cdt (congrArg Nat.cast c)]
          refine ih _ ?_
          rw [mkR_set]
          refine mkR_congr fun z hz => ?_
          by_cases ez : z = i
          · subst ez
            rw [if_pos rfl, if_pos (by omega)]
            unfold uni
            rw [if_pos (by omega), e1]
          · rw [if_neg ez]
            by_cases lt : z < i
            · rw [if_pos lt, if_pos (by omega)]
            · rw [if_neg lt, if_neg (by omega)]
        · rw [cdf (show ¬ ((P i : Nat) : Int) = (hi : Int) by omega)]
          refine ih _ (mkR_congr fun z hz => ?_)
          by_cases ez : z = i
          · subst ez
            rw [if_neg (by omega), if_pos (by omega)]
            unfold uni
            rw [if_neg (by omega)]
          · by_cases lt : z < i
            · rw [if_pos lt, if_pos (by omega)]
            · rw [if_neg lt, if_neg (by omega)]
      · intro rc q hq
        subst hq
        unfold zz45_b7
        rw [cdf (by omega), zz45_a7]
        rw [show (mkR n fun z => ((if z < n then uni P x y z else P z : Nat) : Int)) = ptL n (uni P x y) from mkR_congr fun z hz => by rw [if_pos hz]]
    by_cases c : P y < P x
    · rw [cdt (show ((P y : Nat) : Int) < ((P x : Nat) : Int) by omega)]
      exact key _ _ (by omega) (by omega)
    · rw [cdf (show ¬ ((P y : Nat) : Int) < ((P x : Nat) : Int) by omega)]
      exact key _ _ (by omega) (by omega)

theorem specUnite_eq {n : Nat} {P : Nat → Nat} {x y : Nat} (hn : n ≤ 1048576) (hx : x < n) (hy : y < n) : zz23 big (ptL n P) (x : Int) (y : Int) = some (ptL n (uni P x y), ()) := by
  unfold zz23 zz23_s
  have g : ∀ z, z < n → atI (ptL n P) (z : Int) = some ((P z : Nat) : Int) := fun z hz => atI_mkR hz
  have e1 : zz21 ((P x : Nat) : Int) ((P y : Nat) : Int) = some (((min (P x) (P y) : Nat) : Int), ()) := by
    unfold zz21 zz21_s
    by_cases c : P x < P y
    · rw [cdt (by omega), Nat.min_eq_left (by omega)]
    · rw [cdf (by omega), Nat.min_eq_right (by omega)]
  have e2 : zz22 ((P x : Nat) : Int) ((P y : Nat) : Int) = some (((max (P x) (P y) : Nat) : Int), ()) := by
    unfold zz22 zz22_s
    by_cases c : P y < P x
    · rw [cdt (by omega), Nat.max_eq_left (by omega)]
    · rw [cdf (by omega), Nat.max_eq_right (by omega)]
  simp only [g x hx, g y hy, Option.bind_some, e1, e2]
  refine zz23_h4 n (fun i q => q = ptL i (uni P x y)) (by omega) ?_ ?_ 0 (by omega) _ rfl
  · intro rc i q hi hq ih
    have hl := ptL_len i (uni P x y)
    unfold zz23_b4
    simp only [ptL_len, cdt (show (i : Int) < (n : Int) by omega), g i hi, Option.bind_some, wr1 (show i ≤ 4611686018427387904 by omega)]
    by_cases c : P i = max (P x) (P y)
    · rw [cdt (congrArg Nat.cast c), app1 (by rw [hq, hl]; omega), Option.bind_some]
      refine ih _ ?_
      rw [hq]; unfold ptL; rw [mkR_succ]
      unfold uni; rw [if_pos c]
    · rw [cdf (show ¬ ((P i : Nat) : Int) = ((max (P x) (P y) : Nat) : Int) by omega), app1 (by rw [hq, hl]; omega), Option.bind_some]
      refine ih _ ?_
      rw [hq]; unfold ptL; rw [mkR_succ]
      unfold uni; rw [if_neg c]
  · intro rc q hq
    unfold zz23_b4
    rw [ptL_len, cdf (by omega), zz23_a4, hq]

def PartL (n : Nat) (l : List Int) : Prop := ∃ P, Pt n P ∧ l = ptL n P

theorem isPart_iff {n : Nat} {l : List Int} (hl : l.length = n) : PartL n l ↔ ∀ x (h : x < n), 0 ≤ l[x]'(by omega) ∧ l[x]'(by omega) ≤ (x : Int) ∧ l[(l[x]'(by omega)).toNat]? = some (l[x]'(by omega)) := by
  constructor
  · rintro ⟨P, hp, rfl⟩ x hx
    have e : (ptL n P)[x]'(by rw [ptL_len]; exact hx) = ((P x : Nat) : Int) := by simp [ptL, mkR]
    rw [e, Int.toNat_natCast, show (ptL n P)[P x]? = some ((P (P x) : Nat) : Int) from get_mkR (hp.lt hx), hp.id x hx]
    exact ⟨by omega, by have := hp.lo x hx; omega, rfl⟩
  · intro h
    have hlt : ∀ x, x < n → ((l.getD x 0).toNat ≤ x ∧ 0 ≤ l.getD x 0) := fun x hx => by
      have h1 := h x hx
      have e : l.getD x 0 = l[x]'(by omega) := by rw [List.getD_eq_getElem?_getD, List.getElem?_eq_getElem (by omega)]; rfl
      rw [e]; omega
    refine ⟨fun x => (l.getD x 0).toNat, ⟨fun x hx => (hlt x hx).1, fun x hx => ?_⟩, ?_⟩
    · have h1 := h x hx
      have e : l.getD x 0 = l[x]'(by omega) := by rw [List.getD_eq_getElem?_getD, List.getElem?_eq_getElem (by omega)]; rfl
      show (l.getD (l.getD x 0).toNat 0).toNat = (l.getD x 0).toNat
      have e2 : l.getD (l.getD x 0).toNat 0 = l.getD x 0 := by
        rw [List.getD_eq_getElem?_getD, e, h1.2.2]; rfl
      rw [e2]
    · refine eq_mkR hl fun i hi => ?_
      have h1 := hlt i (by omega)
      have e : l.getD i 0 = l[i] := by rw [List.getD_eq_getElem?_getD, List.getElem?_eq_getElem hi]; rfl
      show l[i] = (((l.getD i 0).toNat : Nat) : Int)
      rw [← e]; omega

theorem isPartition_eq {n : Nat} {l : List Int} (hn : n ≤ 1048576) (hl : l.length ≤ 1048576) : zz43 big (n : Int) l = some (tv (PartL n l), ()) := by
  unfold zz43 zz43_s
  by_cases e : l.length = n
  · rw [cdf (by omega), e]
    refine zz43_h4 n (fun i => ∀ x, x < i → ∀ h : x < l.length, 0 ≤ l[x] ∧ l[x] ≤ (x : Int) ∧ l[(l[x]).toNat]? = some l[x]) (by omega) ?_ ?_ 0 (by omega) (by intro x hx; omega)
    · intro rc i hi hv ih
      have hil : i < l.length := by omega
      unfold zz43_b4
      simp only [cdt (show (i : Int) < (n : Int) by omega), atI_lt l i hil, Option.bind_some, wr1 (show i ≤ 4611686018427387904 by omega)]
      by_cases c1 : l[i] < 0
      · rw [cdt c1, tv_f fun hh => by have := (isPart_iff e).1 hh i hi; omega]
      · rw [cdf c1]
        by_cases c2 : (i : Int) < l[i]
        · rw [cdt c2, tv_f fun hh => by have := (isPart_iff e).1 hh i hi; omega]
        · rw [cdf c2]
          have hlt : (l[i]).toNat < l.length := by omega
          have hat : atI l l[i] = some l[(l[i]).toNat] := by
            have := atI_lt l (l[i]).toNat hlt
            rwa [Int.toNat_of_nonneg (by omega)] at this
          rw [hat, Option.bind_some]
          by_cases c3 : l[(l[i]).toNat] = l[i]
          · rw [cdf (fun hc => hc c3)]
            exact ih (all_lt_succ.2 ⟨hv, fun _ => ⟨by omega, by omega, by rw [List.getElem?_eq_getElem hlt, c3]⟩⟩)
          · rw [cdt c3, tv_f fun hh => by
              have := (isPart_iff e).1 hh i hi
              rw [List.getElem?_eq_getElem hlt] at this
              exact c3 (Option.some.inj this.2.2)]
    · intro rc hv
      unfold zz43_b4
      rw [cdf (by omega), zz43_a4, tv_t ((isPart_iff e).2 fun x hx => hv x hx (by omega))]
  · rw [cdt (by omega), tv_f fun hh => by obtain ⟨P, _, rfl⟩ := hh; exact e (ptL_len n P)]

theorem specPartition_eq {n : Nat} {l : List Int} (hn : n ≤ 1048576) (hl : l.length ≤ 1048576) : zz17 big (n : Int) l = some (tv (PartL n l), ()) := by
  unfold zz17 zz17_s
  by_cases e : l.length = n
  · rw [cdf (by omega)]
    refine zz17_h4 n (fun i => ∀ x, x < i → ∀ h : x < l.length, 0 ≤ l[x] ∧ l[x] ≤ (x : Int) ∧ l[(l[x]).toNat]? = some l[x]) (by omega) ?_ ?_ 0 (by omega) (by intro x hx; omega)
    · intro rc i hi hv ih
      have hil : i < l.length := by omega
      unfold zz17_b4 zz6 zz6_s
      simp only [cdt (show (i : Int) < (n : Int) by omega), atI_lt l i hil, Option.bind_some, wr1 (show i ≤ 4611686018427387904 by omega)]
      by_cases c1 : 0 ≤ l[i]
      · rw [cdt c1, Option.bind_some]
        by_cases c2 : l[i] ≤ (i : Int)
        · simp only [decide_eq_true c2, Bool.not_true, cond_false]
          have hlt : (l[i]).toNat < l.length := by omega
          have hat : atI l l[i] = some l[(l[i]).toNat] := by
            have := atI_lt l (l[i]).toNat hlt
            rwa [Int.toNat_of_nonneg (by omega)] at this
          rw [hat, Option.bind_some]
          by_cases c3 : l[(l[i]).toNat] = l[i]
          · rw [cdf (fun hc => hc c3)]
            exact ih (all_lt_succ.2 ⟨hv, fun _ => ⟨by omega, by omega, by rw [List.getElem?_eq_getElem hlt, c3]⟩⟩)
          · rw [cdt c3, tv_f fun hh => by
              have := (isPart_iff e).1 hh i hi
              rw [List.getElem?_eq_getElem hlt] at this
              exact c3 (Option.some.inj this.2.2)]
        · simp only [decide_eq_false c2, Bool.not_false, cond_true]
          rw [tv_f fun hh => by have := (isPart_iff e).1 hh i hi; omega]
      · rw [cdf c1, Option.bind_some, tv_f fun hh => by have := (isPart_iff e).1 hh i hi; omega]
        rfl
    · intro rc hv
      unfold zz17_b4
      rw [cdf (by omega), zz17_a4, tv_t ((isPart_iff e).2 fun x hx => hv x hx (by omega))]
  · rw [cdt (by omega), tv_f fun hh => by obtain ⟨P, _, rfl⟩ := hh; exact e (ptL_len n P)]

def opsL (n : Nat) (fs : List (Nat → Nat → Nat)) : List OpT := fs.map fun f => ((2 : Int), flt n (fun x y => ((f x y : Nat) : Int)) n, ())

def algL (n : Nat) (fs : List (Nat → Nat → Nat)) : AlT := ((n : Int), opsL n fs, ())

def Opn (n : Nat) (fs : List (Nat → Nat → Nat)) : Prop := ∀ f ∈ fs, ∀ x y, x < n → y < n → f x y < n

def oth (f : Nat → Nat → Nat) (n : Nat) (P : Nat → Nat) (k i : Nat) : Nat := if k = 0 then f (i / n) (P (i % n)) else f (P (i / n)) (i % n)

def Wp (f : Nat → Nat → Nat) (n : Nat) (P : Nat → Nat) (k i : Nat) : Prop := P (f (i / n) (i % n)) = P (oth f n P k i)

def Cg (n : Nat) (fs : List (Nat → Nat → Nat)) (P : Nat → Nat) : Prop := ∀ f ∈ fs, ∀ k, k < 2 → ∀ i, i < n * n → Wp f n P k i

def Lst (n : Nat) (fs : List (Nat → Nat → Nat)) (P p : Nat → Nat) : Prop := ∀ C, Pt n C → Lep n P C → Cg n fs C → Lep n p C

theorem ix_lt {n i : Nat} (h : i < n * n) : i / n < n ∧ i % n < n := by
  have hn : 0 < n := by
    rcases Nat.eq_zero_or_pos n with e | e
    · subst e; omega
    · exact e
  exact ⟨Nat.div_lt_of_lt_mul h, Nat.mod_lt _ hn⟩

theorem ix_mk {n x y : Nat} (hx : x < n) (hy : y < n) : x * n + y < n * n ∧ (x * n + y) / n = x ∧ (x * n + y) % n = y := by
  have hn : 0 < n := by omega
  refine ⟨?_, ?_, ?_⟩
  · have := Nat.mul_le_mul_right n (show x + 1 ≤ n by omega)
    rw [Nat.succ_mul] at this; omega
  · rw [Nat.mul_comm, Nat.mul_add_div hn, Nat.div_eq_of_lt hy, Nat.add_zero]
  · rw [Nat.mul_comm, Nat.mul_add_mod, Nat.mod_eq_of_lt hy]

theorem ix_eq (n i : Nat) : i / n * n + i % n = i := by
  rw [Nat.mul_comm]; exact Nat.div_add_mod i n

theorem flt_get {n : Nat} {f : Nat → Nat → Int} (hn : 0 < n) : ∀ {k i : Nat}, i < k * n → (flt n f k)[i]? = some (f (i / n) (i % n))
  | 0, i, h => by omega
  | k + 1, i, h => by
    have hl := flt_len n f k
    rw [Nat.succ_mul] at h
    unfold flt
    by_cases c : i < k * n
    · rw [List.getElem?_append_left (by omega)]; exact flt_get hn c
    · obtain ⟨j, rfl⟩ : ∃ j, i = n * k + j := ⟨i - n * k, by rw [Nat.mul_comm n k]; omega⟩
      have h2 : j < n := by rw [Nat.mul_comm n k] at h; omega
      have h3 : n * k + j - k * n = j := by rw [Nat.mul_comm n k]; omega
      have e1 : (n * k + j) / n = k := by rw [Nat.mul_add_div hn, Nat.div_eq_of_lt h2, Nat.add_zero]
      have e2 : (n * k + j) % n = j := by rw [Nat.mul_add_mod, Nat.mod_eq_of_lt h2]
      rw [List.getElem?_append_right (by omega), hl, h3, get_mkR h2, e1, e2]

theorem ops_len (n : Nat) (fs : List (Nat → Nat → Nat)) : (opsL n fs).length = fs.length := List.length_map _

theorem ops_at {n : Nat} {fs : List (Nat → Nat → Nat)} {t : Nat} (h : t < fs.length) : atI (opsL n fs) (t : Int) = some ((2 : Int), flt n (fun x y => ((fs[t] x y : Nat) : Int)) n, ()) := by
  rw [atI_lt _ t (by rw [ops_len]; exact h)]; simp [opsL]

theorem tab_at {n : Nat} {f : Nat → Nat → Nat} {i : Nat} (h : i < n * n) : atI (flt n (fun x y => ((f x y : Nat) : Int)) n) (i : Int) = some ((f (i / n) (i % n) : Nat) : Int) := by
  have hn : 0 < n := Nat.lt_of_le_of_lt (Nat.zero_le _) (ix_lt h).1
  rw [atI_nat, flt_get hn h]

theorem quo_nat {a b : Nat} (hb : 0 < b) (ha : a ≤ 4611686018427387904) : quoI IntKind.i64 (a : Int) (b : Int) = some ((a / b : Nat) : Int) := by
  unfold quoI
  rw [if_neg (by omega), Int.tdiv_eq_ediv_of_nonneg (by omega), ← Int.natCast_ediv, wr (by have := Int.natCast_nonneg (a / b); omega) (by have := Nat.div_le_self a b; generalize a / b = c at *; omega)]

theorem rem_nat {a b : Nat} (hb : 0 < b) : remI (a : Int) (b : Int) = some ((a % b : Nat) : Int) := by
  unfold remI
  rw [if_neg (by omega), Int.tmod_eq_emod_of_nonneg (by omega), ← Int.natCast_emod]

theorem cg_xy {n : Nat} {fs : List (Nat → Nat → Nat)} {C : Nat → Nat} (h : Cg n fs C) {f : Nat → Nat → Nat} (hf : f ∈ fs) {x y : Nat} (hx : x < n) (hy : y < n) : C (f x y) = C (f x (C y)) ∧ C (f x y) = C (f (C x) y) := by
  obtain ⟨h1, h2, h3⟩ := ix_mk hx hy
  have a := h f hf 0 (by omega) _ h1
  have b := h f hf 1 (by omega) _ h1
  unfold Wp oth at a b
  rw [h2, h3] at a b
  exact ⟨a, b⟩

theorem oth_lt {n : Nat} {fs : List (Nat → Nat → Nat)} (ho : Opn n fs) {f : Nat → Nat → Nat} (hf : f ∈ fs) {P : Nat → Nat} (hp : Pt n P) {k i : Nat} (hi : i < n * n) : oth f n P k i < n := by
  obtain ⟨h1, h2⟩ := ix_lt hi
  unfold oth
  split
  · exact ho f hf _ _ h1 (hp.lt h2)
  · exact ho f hf _ _ (hp.lt h1) h2

theorem pair_ok {n : Nat} {fs : List (Nat → Nat → Nat)} {f : Nat → Nat → Nat} (hf : f ∈ fs) {p C : Nat → Nat} (hp : Pt n p) (hl : Lep n p C) (hc : Cg n fs C) {k i : Nat} (hi : i < n * n) : C (f (i / n) (i % n)) = C (oth f n p k i) := by
  obtain ⟨h1, h2⟩ := ix_lt hi
  unfold oth
  split
  · rw [(cg_xy hc hf h1 h2).1, (cg_xy hc hf h1 (hp.lt h2)).1, hl _ h2]
  · rw [(cg_xy hc hf h1 h2).2, (cg_xy hc hf (hp.lt h1) h2).2, hl _ h1]

structure StW (n : Nat) (X : Nat → Nat) (b : Bool) (p : Nat → Nat) : Prop where
  eq : b = false → ∀ x, x < n → p x = X x
  lt : b = true → cls n p < cls n X

theorem uni_ne {n : Nat} {p : Nat → Nat} {v w : Nat} (hv : v < n) (hw : w < n) (e : p v ≠ p w) : ∃ x, x < n ∧ uni p v w x ≠ p x := by
  rcases Nat.lt_or_ge (p v) (p w) with c | c
  · refine ⟨w, hw, ?_⟩
    unfold uni
    rw [Nat.max_eq_right (by omega), Nat.min_eq_left (by omega), if_pos rfl]; omega
  · refine ⟨v, hv, ?_⟩
    unfold uni
    rw [Nat.max_eq_left (by omega), Nat.min_eq_right (by omega), if_pos rfl]; omega

theorem StW.step_ne {n : Nat} {X p : Nat → Nat} {b : Bool} (hp : Pt n p) (h : StW n X b p) {v w : Nat} (hv : v < n) (hw : w < n) (e : p v ≠ p w) : StW n X true (uni p v w) where
  eq := fun h => absurd h (by simp)
  lt := fun _ => by
    obtain ⟨x, hx, hne⟩ := uni_ne hv hw e
    have h1 := cls_lt hp (uni_pt hp hv hw) (le_uni hp v w) hx hne
    cases b with
    | true => have := h.lt rfl; omega
    | false => have := cls_congr (h.eq rfl); omega

theorem StW.step_eq {n : Nat} {X p : Nat → Nat} {b : Bool} (h : StW n X b p) {v w : Nat} (e : p v = p w) : StW n X b (uni p v w) where
  eq := fun hb x hx => by rw [uni_same e]; exact h.eq hb x hx
  lt := fun hb => by rw [cls_congr (Q := p) fun x _ => uni_same e x]; exact h.lt hb

structure IVp (n : Nat) (fs : List (Nat → Nat → Nat)) (P p0 : Nat → Nat) (D : Prop) (l : List Int) (was ch : Bool) (p : Nat → Nat) : Prop where
  form : l = ptL n p
  pt : Pt n p
  le : Lep n P p
  lst : Lst n fs P p
  st : StW n P was p
  st0 : StW n p0 ch p
  done : ch = false → D

theorem IVp.step_ne {n : Nat} {fs : List (Nat → Nat → Nat)} {P p0 p : Nat → Nat} {D D' : Prop} {l : List Int} {was ch : Bool} (ho : Opn n fs) (h : IVp n fs P p0 D l was ch p) {f : Nat → Nat → Nat} (hf : f ∈ fs) {k i : Nat} (hi : i < n * n) (hP : Pt n P) (e : p (f (i / n) (i % n)) ≠ p (oth f n p k i)) :
    IVp n fs P p0 D' (ptL n (uni p (f (i / n) (i % n)) (oth f n p k i))) true true (uni p (f (i / n) (i % n)) (oth f n p k i)) := by
  obtain ⟨h1, h2⟩ := ix_lt hi
  have hv := ho f hf _ _ h1 h2
  have hw := oth_lt ho hf h.pt (k := k) hi
  exact ⟨rfl, uni_pt h.pt hv hw, Lep.trans hP h.le (le_uni h.pt _ _), fun C hC hl hc => uni_le h.pt (h.lst C hC hl hc) hv hw (pair_ok hf h.pt (h.lst C hC hl hc) hc hi), h.st.step_ne h.pt hv hw e, h.st0.step_ne h.pt hv hw e, fun c => absurd c (by simp)⟩

theorem IVp.step_eq {n : Nat} {fs : List (Nat → Nat → Nat)} {P p0 p : Nat → Nat} {D D' : Prop} {l : List Int} {was ch : Bool} (ho : Opn n fs) (h : IVp n fs P p0 D l was ch p) {f : Nat → Nat → Nat} (hf : f ∈ fs) {k i : Nat} (hi : i < n * n) (hP : Pt n P) (e : p (f (i / n) (i % n)) = p (oth f n p k i)) (hD : D → Wp f n p0 k i → D') :
    IVp n fs P p0 D' (ptL n (uni p (f (i / n) (i % n)) (oth f n p k i))) was ch (uni p (f (i / n) (i % n)) (oth f n p k i)) := by
  obtain ⟨h1, h2⟩ := ix_lt hi
  have hv := ho f hf _ _ h1 h2
  have hw := oth_lt ho hf h.pt (k := k) hi
  refine ⟨rfl, uni_pt h.pt hv hw, Lep.trans hP h.le (le_uni h.pt _ _), fun C hC hl hc => uni_le h.pt (h.lst C hC hl hc) hv hw (pair_ok hf h.pt (h.lst C hC hl hc) hc hi), h.st.step_eq e, h.st0.step_eq e, fun c => hD (h.done c) ?_⟩
  have hq := h.st0.eq c
  have eo : oth f n p0 k i = oth f n p k i := by unfold oth; rw [hq _ h1, hq _ h2]
  unfold Wp
  rw [eo, ← hq _ hv, ← hq _ hw, e]

def PassD (n : Nat) (fs : List (Nat → Nat → Nat)) (p0 : Nat → Nat) (t k i : Nat) : Prop :=
  (∀ j, j < t → ∀ h : j < fs.length, ∀ k, k < 2 → ∀ i, i < n * n → Wp fs[j] n p0 k i) ∧ (∀ h : t < fs.length, (∀ k', k' < k → ∀ i, i < n * n → Wp fs[t] n p0 k' i) ∧ ∀ i', i' < i → Wp fs[t] n p0 k i')

structure ClR (n : Nat) (fs : List (Nat → Nat → Nat)) (P q : Nat → Nat) (was : Bool) : Prop where
  pt : Pt n q
  le : Lep n P q
  lst : Lst n fs P q
  cg : Cg n fs q
  st : StW n P was q

def muL (l : List Int) : Nat := ((List.range l.length).filter fun (i : Nat) => decide (l[i]? = some (i : Int))).length

theorem muL_eq (n : Nat) (p : Nat → Nat) : muL (ptL n p) = cls n p := by
  unfold muL cls fl
  rw [ptL_len]
  congr 1
  refine List.filter_congr fun x hx => ?_
  rw [show (ptL n p)[x]? = some ((p x : Nat) : Int) from get_mkR (List.mem_range.1 hx)]
  refine decide_eq_decide.2 ⟨fun h => by have := Option.some.inj h; omega, fun h => by rw [h]⟩

theorem idx0 {n i : Nat} {p : Nat → Nat} (h10 : n ≤ 10) (hi : i < n * n) (hp : Pt n p) : IntKind.i64.wrap ((i : Int) + IntKind.i64.wrap (IntKind.i64.wrap (((p (i % n) : Nat) : Int) - ((i % n : Nat) : Int)) * ((n ^ 0 : Nat) : Int))) = ((i / n * n + p (i % n) : Nat) : Int) := by
  obtain ⟨h1, h2⟩ := ix_lt hi
  have hnn := nn_le (i := n) (n := n) h10 h10
  have e := ix_eq n i
  have l := hp.lo _ h2
  rw [show ((n ^ 0 : Nat) : Int) = 1 by simp, Int.mul_one]
  generalize i / n * n = a at *
  generalize i % n = b at *
  rw [wr (n := ((p b : Nat) : Int) - (b : Int)) (by omega) (by omega), wr (n := ((p b : Nat) : Int) - (b : Int)) (by omega) (by omega), wr (by omega) (by omega)]
  omega

theorem idx1 {n i : Nat} {p : Nat → Nat} (h10 : n ≤ 10) (hi : i < n * n) (hp : Pt n p) : IntKind.i64.wrap ((i : Int) + IntKind.i64.wrap (IntKind.i64.wrap (((p (i / n) : Nat) : Int) - ((i / n : Nat) : Int)) * ((n ^ 1 : Nat) : Int))) = ((p (i / n) * n + i % n : Nat) : Int) := by
  obtain ⟨h1, h2⟩ := ix_lt hi
  have hnn := nn_le (i := n) (n := n) h10 h10
  have e := ix_eq n i
  have l := hp.lo _ h1
  have l2 := Nat.mul_le_mul_right n l
  rw [Nat.pow_one]
  generalize i / n = a at *
  generalize i % n = b at *
  rw [wr (n := ((p a : Nat) : Int) - (a : Int)) (by omega) (by omega), Int.sub_mul, ← Int.natCast_mul, ← Int.natCast_mul]
  generalize p a * n = c at *
  generalize a * n = d at *
  rw [wr (n := (c : Int) - (d : Int)) (by omega) (by omega), wr (by omega) (by omega)]
  omega

theorem close_step {n : Nat} {fs : List (Nat → Nat → Nat)} (h10 : n ≤ 10) (ho : Opn n fs) {p : Nat → Nat} (hp : Pt n p) {f : Nat → Nat → Nat} (hf : f ∈ fs) {k i : Nat} (hk : k < 2) (hi : i < n * n) {R : Type} (G : List Int × Bool → Option R) :
    ((quoI IntKind.i64 (i : Int) ((n ^ k : Nat) : Int)).bind fun xq3 => (remI xq3 (n : Int)).bind fun xq4 => (atI (ptL n p) xq4).bind fun _ => ((ptL n p)[xq4.toNat]?).bind fun xq5 =>
      (atI (flt n (fun x y => ((f x y : Nat) : Int)) n) (IntKind.i64.wrap ((i : Int) + (IntKind.i64.wrap ((IntKind.i64.wrap (xq5 - xq4)) * ((n ^ k : Nat) : Int)))))).bind fun xq6 =>
      (zz45 big (ptL n p) ((f (i / n) (i % n) : Nat) : Int) xq6).bind fun rq7 => G (rq7.2.1, rq7.1)) =
    G (ptL n (uni p (f (i / n) (i % n)) (oth f n p k i)), decide (p (f (i / n) (i % n)) ≠ p (oth f n p k i))) := by
  obtain ⟨h1, h2⟩ := ix_lt hi
  have hn : 0 < n := Nat.lt_of_le_of_lt (Nat.zero_le _) h1
  have hnn := nn_le (i := n) (n := n) h10 h10
  have hv := ho f hf _ _ h1 h2
  have hw := oth_lt ho hf hp (k := k) hi
  have g : ∀ z, z < n → atI (ptL n p) (z : Int) = some ((p z : Nat) : Int) := fun z hz => atI_mkR hz
  have g2 : ∀ z, z < n → (ptL n p)[z]? = some ((p z : Nat) : Int) := fun z hz => get_mkR hz
  have hu := unite_eq (n := n) (P := p) (show n ≤ 1048576 by omega) hv hw
  have hk2 : k = 0 ∨ k = 1 := by omega
  rcases hk2 with rfl | rfl
  · obtain ⟨a1, a2, a3⟩ := ix_mk h1 (hp.lt h2)
    rw [quo_nat (by simp) (by omega)]
    simp only [Option.bind_some, rem_nat hn, Nat.pow_zero, Nat.div_one, g _ h2, Int.toNat_natCast, g2 _ h2]
    have e := idx0 h10 hi hp
    simp only [Nat.pow_zero] at e
    rw [e, tab_at a1, a2, a3, Option.bind_some]
    unfold oth at hu ⊢
    simp only [if_pos] at hu ⊢
    rw [hu, Option.bind_some]
  · obtain ⟨a1, a2, a3⟩ := ix_mk (hp.lt h1) h2
    rw [quo_nat (by rw [Nat.pow_one]; exact hn) (by omega)]
    have em : i / n % n = i / n := Nat.mod_eq_of_lt h1
    simp only [Option.bind_some, rem_nat hn, Nat.pow_one, em, g _ h1, Int.toNat_natCast, g2 _ h1]
    have e := idx1 h10 hi hp
    simp only [Nat.pow_one] at e
    rw [e, tab_at a1, a2, a3, Option.bind_some]
    unfold oth at hu ⊢
    simp only [if_neg (show ¬ (1 : Nat) = 0 by omega)] at hu ⊢
    rw [hu, Option.bind_some]

theorem close_eq {n : Nat} {fs : List (Nat → Nat → Nat)} (h10 : n ≤ 10) (hn : 0 < n) (hfl : fs.length ≤ 10) (ho : Opn n fs) {P : Nat → Nat} (hP : Pt n P) : ∃ was q, zz46 big (algL n fs) (ptL n P) = some (was, (ptL n q, ())) ∧ ClR n fs P q was := by
  have hnn := nn_le (i := n) (n := n) h10 h10
  unfold zz46 zz46_s
  refine zz46_v3 (Q := fun r => ∃ was q, r = some (was, (ptL n q, ())) ∧ ClR n fs P q was) (fun l was ch => muL l * 2 + if ch then 1 else 0)
    (fun l was ch => ∃ p, l = ptL n p ∧ Pt n p ∧ Lep n P p ∧ Lst n fs P p ∧ StW n P was p ∧ (ch = false → Cg n fs p)) ?_ _ _ _ ?_ ⟨P, rfl, hP, Lep.refl hP, fun C _ hl _ => hl, ⟨fun _ _ _ => rfl, fun h => absurd h (by simp)⟩, fun h => absurd h (by simp)⟩
  · rintro rc l was ch ⟨p0, rfl, hp0, hle0, hlst0, hst0, hcg0⟩ ih
    unfold zz46_b3
    cases ch with
    | false => exact ⟨was, p0, rfl, hp0, hle0, hlst0, hcg0 rfl, hst0⟩
    | true =>
      rw [cond_true]
      refine zz46_q6 (Q := fun r => ∃ was q, r = some (was, (ptL n q, ())) ∧ ClR n fs P q was) fs.length (fun t l was ch => ∃ p, IVp n fs P p0 (PassD n fs p0 t 0 0) l was ch p) (by omega) ?_ ?_ 0 (by omega) _ _ _ ⟨p0, rfl, hp0, hle0, hlst0, hst0, ⟨fun _ _ _ => rfl, fun h => absurd h (by simp)⟩, fun _ => ⟨fun j hj => by omega, fun _ => ⟨fun j hj => by omega, fun j hj => by omega⟩⟩⟩
      · rintro rc2 t l was ch ht hv ih2
        have hm := List.getElem_mem ht
        unfold zz46_b6
        simp only [algL, ops_len, cdt (show (t : Int) < (fs.length : Int) by omega), ops_at ht, Option.bind_some]
        refine zz46_q10 (Q := fun r => ∃ was q, r = some (was, (ptL n q, ())) ∧ ClR n fs P q was) 2 (fun k l was ch step => step = ((n ^ k : Nat) : Int) ∧ ∃ p, IVp n fs P p0 (PassD n fs p0 t k 0) l was ch p) (by omega) ?_ ?_ 0 (by omega) _ _ _ _ ⟨by simp, hv⟩
        · rintro rc3 k l was ch step hk ⟨rfl, hv⟩ ih3
          unfold zz46_b10
          simp only [cdt (show (k : Int) < (2 : Int) by omega), flt_len]
          refine zz46_q13 (Q := fun r => ∃ was q, r = some (was, (ptL n q, ())) ∧ ClR n fs P q was) (n * n) (fun i l was ch => ∃ p, IVp n fs P p0 (PassD n fs p0 t k i) l was ch p) (by omega) ?_ ?_ 0 (by omega) _ _ _ hv
          · rintro rc4 i l was ch hi ⟨p, hv⟩ ih4
            have hl := hv.form
            subst hl
            unfold zz46_b13
            rw [cdt (by omega), tab_at hi, Option.bind_some]
            refine (congrArg (fun r => ∃ was q, r = some (was, (ptL n q, ())) ∧ ClR n fs P q was) (close_step h10 ho hv.pt hm hk hi fun r => cond r.2 (rc4 r.1 (algL n fs) true true _ _ _ _ _ _ _ _ (IntKind.i64.wrap ((i : Int) + (1 : Int)))) (rc4 r.1 (algL n fs) was ch _ _ _ _ _ _ _ _ (IntKind.i64.wrap ((i : Int) + (1 : Int)))))).mpr ?_
            rw [wr1 (by omega)]
            by_cases e : p (fs[t] (i / n) (i % n)) = p (oth fs[t] n p k i)
            · simp only [e, ne_eq, not_true_eq_false, decide_false, cond_false]
              have := hv.step_eq ho hm hi hP e (D' := PassD n fs p0 t k (i + 1)) (fun d w => ⟨d.1, fun h => ⟨(d.2 h).1, all_lt_succ.2 ⟨(d.2 h).2, w⟩⟩⟩)
              exact ih4 _ _ _ ⟨_, this⟩
            · simp only [ne_eq, e, not_false_eq_true, decide_true, cond_true]
              exact ih4 _ _ _ ⟨_, hv.step_ne ho hm hi hP e⟩
          · rintro rc4 l was ch ⟨p, hv⟩
            unfold zz46_b13
            rw [cdf (by omega), zz46_a13]
            have e1 : IntKind.i64.wrap (((n ^ k : Nat) : Int) * (n : Int)) = ((n ^ (k + 1) : Nat) : Int) := by
              have : n ^ k * n ≤ 100 := by
                have hk2 : k = 0 ∨ k = 1 := by omega
                rcases hk2 with rfl | rfl
                · simp; omega
                · rw [Nat.pow_one]; exact hnn
              rw [← Int.natCast_mul, ← Nat.pow_succ, wr (by have := Int.natCast_nonneg (n ^ (k + 1)); omega) (by rw [Nat.pow_succ]; generalize n ^ k * n = c at *; omega)]
            rw [show IntKind.i64.wrap (((n ^ k : Nat) : Int) * ((n : Int), opsL n fs, ()).1) = _ from e1, wr1 (by omega)]
            exact ih3 _ _ _ _ ⟨rfl, p, hv.form, hv.pt, hv.le, hv.lst, hv.st, hv.st0, fun c => ⟨(hv.done c).1, fun h => ⟨all_lt_succ.2 ⟨((hv.done c).2 h).1, ((hv.done c).2 h).2⟩, fun j hj => by omega⟩⟩⟩
        · rintro rc3 l was ch step ⟨rfl, p, hv⟩
          unfold zz46_b10
          rw [cdf (by simp), zz46_a10, wr1 (by omega)]
          have e2 := ih2 _ _ _ ⟨p, hv.form, hv.pt, hv.le, hv.lst, hv.st, hv.st0, fun c => ⟨all_lt_succ.2 ⟨(hv.done c).1, fun h => ((hv.done c).2 h).1⟩, fun h => ⟨fun j hj => by omega, fun j hj => by omega⟩⟩⟩
          simp only [algL, ops_len] at e2
          exact e2
      · rintro rc2 l was ch ⟨p, hv⟩
        unfold zz46_b6
        simp only [algL, ops_len, cdf (show ¬ (fs.length : Int) < (fs.length : Int) by omega), zz46_a6]
        refine ih _ _ _ ⟨p, hv.form, hv.pt, hv.le, hv.lst, hv.st, fun c => ?_⟩ ?_
        · intro f hf k hk i hi
          obtain ⟨j, hj, rfl⟩ := List.getElem_of_mem hf
          have w := (hv.done c).1 j hj hj k hk i hi
          obtain ⟨i1, i2⟩ := ix_lt hi
          have hq := hv.st0.eq c
          have eo : oth fs[j] n p0 k i = oth fs[j] n p k i := by unfold oth; rw [hq _ i1, hq _ i2]
          unfold Wp at w ⊢
          rw [eo, ← hq _ (ho _ hf _ _ i1 i2), ← hq _ (oth_lt ho hf hv.pt hi)] at w
          exact w
        · rw [hv.form, muL_eq, muL_eq]
          cases ch with
          | true => have := hv.st0.lt rfl; simp; omega
          | false => have := cls_congr (hv.st0.eq rfl); simp; omega
  · rw [muL_eq]; have := cls_le (n := n) P; simp; omega

theorem args2_eq {n i : Nat} (h10 : n ≤ 10) (hi : i < n * n) : zz19 big (n : Int) 2 (i : Int) = some ([((i / n : Nat) : Int), ((i % n : Nat) : Int)], ()) := by
  obtain ⟨h1, h2⟩ := ix_lt hi
  have hn : 0 < n := Nat.lt_of_le_of_lt (Nat.zero_le _) h1
  have hnn := nn_le (i := n) (n := n) h10 h10
  unfold zz19 zz19_s
  rw [show mkI (0 : Int) 2 = some [0, 0] from rfl, Option.bind_some, Option.bind_some, cdt (by omega), wr (by omega) (by omega)]
  refine zz19_w3 (fun _ _ k => (k + 1).toNat) (fun a o k => (k = 1 ∧ a = (i : Int) ∧ o = [0, 0]) ∨ (k = 0 ∧ a = ((i / n : Nat) : Int) ∧ o = [0, ((i % n : Nat) : Int)]) ∨ (k = -1 ∧ o = [((i / n : Nat) : Int), ((i % n : Nat) : Int)])) ?_ _ _ _ (by simp) (.inl ⟨by omega, rfl, rfl⟩)
  rintro rc a o k (⟨rfl, rfl, rfl⟩ | ⟨rfl, rfl, rfl⟩ | ⟨rfl, rfl⟩) ih
  · unfold zz19_b3
    rw [cdt (by omega), rem_nat hn, quo_nat hn (by omega)]
    simp only [Option.bind_some]
    rw [show atI [(0 : Int), 0] (1 : Int) = some 0 from rfl, Option.bind_some, show ([(0 : Int), 0])[((1 : Int)).toNat]? = some 0 from rfl, Option.bind_some, wr (by omega) (by omega)]
    exact ih _ _ _ (.inr (.inl ⟨by omega, rfl, rfl⟩)) (by simp)
  · unfold zz19_b3
    rw [cdt (by omega), rem_nat hn, quo_nat hn (by generalize i / n = c at *; omega)]
    simp only [Option.bind_some]
    rw [show atI [(0 : Int), ((i % n : Nat) : Int)] (0 : Int) = some 0 from rfl, Option.bind_some, show ([(0 : Int), ((i % n : Nat) : Int)])[((0 : Int)).toNat]? = some 0 from rfl, Option.bind_some, wr (by omega) (by omega), Nat.mod_eq_of_lt h1]
    exact ih _ _ _ (.inr (.inr ⟨by omega, rfl⟩)) (by simp)
  · unfold zz19_b3
    rw [cdf (by omega), zz19_a3]

theorem value2_eq {n : Nat} {fs : List (Nat → Nat → Nat)} (h10 : n ≤ 10) {t x y : Nat} (ht : t < fs.length) (hx : x < n) (hy : y < n) : zz20 big (algL n fs) (t : Int) [(x : Int), (y : Int)] = some (((fs[t] x y : Nat) : Int), ()) := by
  have hnn := nn_le (i := n) (n := n) h10 h10
  obtain ⟨a1, a2, a3⟩ := ix_mk hx hy
  unfold zz20 zz20_s
  refine zz20_h3 2 (fun k v => v = if k = 0 then (0 : Int) else if k = 1 then (x : Int) else ((x * n + y : Nat) : Int)) (by omega) ?_ ?_ 0 (by omega) _ (by simp)
  · intro rc k v hk hv ih
    have hk2 : k = 0 ∨ k = 1 := by omega
    unfold zz20_b3
    rcases hk2 with rfl | rfl
    · rw [if_pos rfl] at hv
      subst hv
      rw [cdt (by simp), show atI [(x : Int), (y : Int)] ((0 : Nat) : Int) = some (x : Int) from rfl, Option.bind_some, Int.zero_mul, wr (n := 0) (by omega) (by omega), wr (by omega) (by omega), wr1 (by omega)]
      exact ih _ (by simp)
    · rw [if_neg (by omega), if_pos rfl] at hv
      subst hv
      rw [cdt (by simp), show atI [(x : Int), (y : Int)] ((1 : Nat) : Int) = some (y : Int) from rfl, Option.bind_some, show (x : Int) * (algL n fs).1 = ((x * n : Nat) : Int) from (Int.natCast_mul x n).symm, wr (n := ((x * n : Nat) : Int)) (by omega) (by omega), wr (by omega) (by omega), wr1 (by omega)]
      exact ih _ (by simp)
  · intro rc v hv
    rw [if_neg (by omega), if_neg (by omega)] at hv
    unfold zz20_b3
    rw [cdf (by simp), zz20_a3, show (algL n fs).2.1 = opsL n fs from rfl, ops_at ht, Option.bind_some, hv, tab_at a1, a2, a3]
    rfl

structure PuR (n : Nat) (fs : List (Nat → Nat → Nat)) (P : Nat → Nat) (D : Prop) (O : Nat → Nat) : Prop where
  pt : Pt n O
  le : Lep n P O
  lst : Lst n fs P O
  done : D

def PuD (n : Nat) (fs : List (Nat → Nat → Nat)) (P O : Nat → Nat) (t i k : Nat) : Prop :=
  (∀ j, j < t → ∀ h : j < fs.length, ∀ k, k < 2 → ∀ i, i < n * n → O (fs[j] (i / n) (i % n)) = O (oth fs[j] n P (1 - k) i)) ∧
  (∀ h : t < fs.length, (∀ i', i' < i → ∀ k, k < 2 → O (fs[t] (i' / n) (i' % n)) = O (oth fs[t] n P (1 - k) i')) ∧ ∀ k', k' < k → O (fs[t] (i / n) (i % n)) = O (oth fs[t] n P (1 - k') i))

theorem PuR.step {n : Nat} {fs : List (Nat → Nat → Nat)} {P O : Nat → Nat} (ho : Opn n fs) (hP : Pt n P) {t i k : Nat} (ht : t < fs.length) (hi : i < n * n) (h : PuR n fs P (PuD n fs P O t i k) O) :
    PuR n fs P (PuD n fs P (uni O (fs[t] (i / n) (i % n)) (oth fs[t] n P (1 - k) i)) t i (k + 1)) (uni O (fs[t] (i / n) (i % n)) (oth fs[t] n P (1 - k) i)) := by
  obtain ⟨h1, h2⟩ := ix_lt hi
  have hm := List.getElem_mem ht
  have hv := ho _ hm _ _ h1 h2
  have hw := oth_lt ho hm hP (k := 1 - k) hi
  have hle := le_uni h.pt (fs[t] (i / n) (i % n)) (oth fs[t] n P (1 - k) i)
  have keep : ∀ {g : Nat → Nat → Nat} {k' i' : Nat}, g ∈ fs → i' < n * n → O (g (i' / n) (i' % n)) = O (oth g n P k' i') → uni O (fs[t] (i / n) (i % n)) (oth fs[t] n P (1 - k) i) (g (i' / n) (i' % n)) = uni O (fs[t] (i / n) (i % n)) (oth fs[t] n P (1 - k) i) (oth g n P k' i') := fun hg hi' e =>
    hle.ker (ho _ hg _ _ (ix_lt hi').1 (ix_lt hi').2) (oth_lt ho hg hP hi') e
  exact ⟨uni_pt h.pt hv hw, Lep.trans hP h.le hle, fun C hC hl hc => uni_le h.pt (h.lst C hC hl hc) hv hw (pair_ok hm hP hl hc hi),
    ⟨fun j hj hjl k hk i' hi' => keep (List.getElem_mem hjl) hi' (h.done.1 j hj hjl k hk i' hi'), fun hh => ⟨fun i' hi' k hk => keep hm (by omega) ((h.done.2 ht).1 i' hi' k hk), all_lt_succ.2 ⟨fun k' hk' => keep hm hi ((h.done.2 ht).2 k' hk'), uni_eq _ _ _⟩⟩⟩⟩

theorem push_eq {n : Nat} {fs : List (Nat → Nat → Nat)} (h10 : n ≤ 10) (hfl : fs.length ≤ 10) (ho : Opn n fs) {P : Nat → Nat} (hP : Pt n P) : ∃ O, zz24 big (algL n fs) (ptL n P) = some (ptL n O, ()) ∧ PuR n fs P (PuD n fs P O fs.length 0 0) O := by
  have hnn := nn_le (i := n) (n := n) h10 h10
  have g : ∀ z, z < n → atI (ptL n P) (z : Int) = some ((P z : Nat) : Int) := fun z hz => atI_mkR hz
  have hown : zz18 (ptL n P) = some (ptL n P, ()) := by
    unfold zz18 zz18_s appI
    rw [if_pos (by rw [ptL_len]; simp; omega)]; rfl
  unfold zz24 zz24_s
  rw [hown, Option.bind_some]
  refine zz24_q3 (Q := fun r => ∃ O, r = some (ptL n O, ()) ∧ PuR n fs P (PuD n fs P O fs.length 0 0) O) fs.length (fun t l => ∃ O, l = ptL n O ∧ PuR n fs P (PuD n fs P O t 0 0) O) (by omega) ?_ ?_ 0 (by omega) _ ⟨P, rfl, hP, Lep.refl hP, fun C _ hl _ => hl, fun j hj => by omega, fun _ => ⟨fun j hj => by omega, fun j hj => by omega⟩⟩
  · rintro rc t l ht hv ih
    unfold zz24_b3
    rw [show (algL n fs).2.1 = opsL n fs from rfl, ops_len, cdt (by omega)]
    refine zz24_q6 (Q := fun r => ∃ O, r = some (ptL n O, ()) ∧ PuR n fs P (PuD n fs P O fs.length 0 0) O) (n * n) (fun i l => ∃ O, l = ptL n O ∧ PuR n fs P (PuD n fs P O t i 0) O) (by omega) ?_ ?_ 0 (by omega) _ hv
    · rintro rc2 i l hi hv2 ih2
      obtain ⟨h1, h2⟩ := ix_lt hi
      unfold zz24_b6
      have e0 : atI (algL n fs).2.1 (t : Int) = some ((2 : Int), flt n (fun x y => ((fs[t] x y : Nat) : Int)) n, ()) := ops_at ht
      have e1 : zz19 big (algL n fs).1 ((2 : Int), flt n (fun x y => ((fs[t] x y : Nat) : Int)) n, ()).1 (i : Int) = some ([((i / n : Nat) : Int), ((i % n : Nat) : Int)], ()) := args2_eq h10 hi
      rw [e0, Option.bind_some, cdt (by show (i : Int) < ((flt n (fun x y => ((fs[t] x y : Nat) : Int)) n).length : Int); rw [flt_len]; omega), Option.bind_some, e1, Option.bind_some]
      refine zz24_q10 (Q := fun r => ∃ O, r = some (ptL n O, ()) ∧ PuR n fs P (PuD n fs P O fs.length 0 0) O) 2 (fun k l => ∃ O, l = ptL n O ∧ PuR n fs P (PuD n fs P O t i k) O) (by omega) ?_ ?_ 0 (by omega) _ hv2
      · rintro rc3 k l hk ⟨O, rfl, hO⟩ ih3
        have hm := List.getElem_mem ht
        have hv3 := ho _ hm _ _ h1 h2
        have hw := oth_lt ho hm hP (k := 1 - k) hi
        have hst := hO.step ho hP ht hi
        have hu := specUnite_eq (n := n) (P := O) (show n ≤ 1048576 by omega) hv3 hw
        have hown2 : zz18 [((i / n : Nat) : Int), ((i % n : Nat) : Int)] = some ([((i / n : Nat) : Int), ((i % n : Nat) : Int)], ()) := by
          unfold zz18 zz18_s appI
          rw [if_pos (by simp)]; rfl
        unfold zz24_b10
        have hk2 : k = 0 ∨ k = 1 := by omega
        rcases hk2 with rfl | rfl
        · have a0 : atI [((i / n : Nat) : Int), ((i % n : Nat) : Int)] ((0 : Nat) : Int) = some ((i / n : Nat) : Int) := rfl
          have a1 : ([((i / n : Nat) : Int), ((i % n : Nat) : Int)])[((0 : Nat) : Int).toNat]? = some ((i / n : Nat) : Int) := rfl
          have a2 : ([((i / n : Nat) : Int), ((i % n : Nat) : Int)]).set ((0 : Nat) : Int).toNat ((P (i / n) : Nat) : Int) = [((P (i / n) : Nat) : Int), ((i % n : Nat) : Int)] := rfl
          rw [cdt (by simp), hown2, Option.bind_some, a0, Option.bind_some, a1, Option.bind_some, g _ h1, Option.bind_some, Option.bind_some, Option.bind_some, show (algL n fs).2.1 = opsL n fs from rfl, ops_at ht, Option.bind_some, tab_at hi, Option.bind_some, a2, value2_eq h10 ht (hP.lt h1) h2, Option.bind_some]
          rw [show oth fs[t] n P (1 - 0) i = fs[t] (P (i / n)) (i % n) from rfl] at hu hst
          rw [hu, Option.bind_some, wr1 (by omega)]
          exact ih3 _ ⟨_, rfl, hst⟩
        · have a0 : atI [((i / n : Nat) : Int), ((i % n : Nat) : Int)] ((1 : Nat) : Int) = some ((i % n : Nat) : Int) := rfl
          have a1 : ([((i / n : Nat) : Int), ((i % n : Nat) : Int)])[((1 : Nat) : Int).toNat]? = some ((i % n : Nat) : Int) := rfl
          have a2 : ([((i / n : Nat) : Int), ((i % n : Nat) : Int)]).set ((1 : Nat) : Int).toNat ((P (i % n) : Nat) : Int) = [((i / n : Nat) : Int), ((P (i % n) : Nat) : Int)] := rfl
          rw [cdt (by simp), hown2, Option.bind_some, a0, Option.bind_some, a1, Option.bind_some, g _ h2, Option.bind_some, Option.bind_some, Option.bind_some, show (algL n fs).2.1 = opsL n fs from rfl, ops_at ht, Option.bind_some, tab_at hi, Option.bind_some, a2, value2_eq h10 ht h1 (hP.lt h2), Option.bind_some]
          rw [show oth fs[t] n P (1 - 1) i = fs[t] (i / n) (P (i % n)) from rfl] at hu hst
          rw [hu, Option.bind_some, wr1 (by omega)]
          exact ih3 _ ⟨_, rfl, hst⟩
      · rintro rc3 l ⟨O, rfl, hO⟩
        unfold zz24_b10
        rw [cdf (by simp), zz24_a10, wr1 (by omega)]
        refine ih2 _ ⟨O, rfl, hO.pt, hO.le, hO.lst, hO.done.1, fun h => ⟨all_lt_succ.2 ⟨(hO.done.2 h).1, (hO.done.2 h).2⟩, fun j hj => by omega⟩⟩
    · rintro rc2 l ⟨O, rfl, hO⟩
      unfold zz24_b6
      simp only [show (algL n fs).2.1 = opsL n fs from rfl, ops_at ht, Option.bind_some, flt_len, cdf (show ¬ ((n * n : Nat) : Int) < ((n * n : Nat) : Int) by omega)]
      rw [zz24_a6, wr1 (by omega)]
      refine ih _ ⟨O, rfl, hO.pt, hO.le, hO.lst, all_lt_succ.2 ⟨hO.done.1, fun h k hk i hi => (hO.done.2 h).1 i hi k hk⟩, fun _ => ⟨fun j hj => by omega, fun j hj => by omega⟩⟩
  · rintro rc l ⟨O, rfl, hO⟩
    unfold zz24_b3
    rw [show (algL n fs).2.1 = opsL n fs from rfl, ops_len, cdf (by omega), zz24_a3]
    exact ⟨O, rfl, hO⟩

theorem push_cg {n : Nat} {fs : List (Nat → Nat → Nat)} (ho : Opn n fs) {P O : Nat → Nat} (hP : Pt n P) (hO : PuR n fs P (PuD n fs P O fs.length 0 0) O) : (∀ x, x < n → O x = P x) ↔ Cg n fs P := by
  constructor
  · intro e f hf k hk i hi
    obtain ⟨j, hj, rfl⟩ := List.getElem_of_mem hf
    have w := hO.done.1 j hj hj (1 - k) (by omega) i hi
    rw [show 1 - (1 - k) = k by omega, e _ (ho _ hf _ _ (ix_lt hi).1 (ix_lt hi).2), e _ (oth_lt ho hf hP hi)] at w
    exact w
  · intro hc x hx
    exact (Lep.eq hP hO.pt hO.le (hO.lst P hP (Lep.refl hP) hc) hx).symm

structure LeastC (n : Nat) (fs : List (Nat → Nat → Nat)) (P O : Nat → Nat) : Prop where
  pt : Pt n O
  le : Lep n P O
  lst : Lst n fs P O
  cg : Cg n fs O

theorem LeastC.eq {n : Nat} {fs : List (Nat → Nat → Nat)} {P O O' : Nat → Nat} (h : LeastC n fs P O) (h' : LeastC n fs P O') : ptL n O = ptL n O' :=
  ptL_congr fun x hx => Lep.eq h.pt h'.pt (h.lst _ h'.pt h'.le h'.cg) (h'.lst _ h.pt h.le h.cg) hx

def CongL (n : Nat) (fs : List (Nat → Nat → Nat)) (l : List Int) : Prop := ∃ P, Pt n P ∧ l = ptL n P ∧ Cg n fs P

theorem isCong_eq {n : Nat} {fs : List (Nat → Nat → Nat)} (h10 : n ≤ 10) (hn : 0 < n) (hfl : fs.length ≤ 10) (ho : Opn n fs) {l : List Int} (hl : l.length ≤ 1048576) : zz47 (algL n fs) l = some (tv (CongL n fs l), ()) := by
  unfold zz47 zz47_s
  rw [show (algL n fs).1 = (n : Int) from rfl, isPartition_eq (by omega) hl, Option.bind_some]
  by_cases h : PartL n l
  · obtain ⟨P, hP, rfl⟩ := h
    obtain ⟨was, q, e, hq⟩ := close_eq h10 hn hfl ho hP
    have hcl : zz44 (ptL n P) = some (ptL n P, ()) := by
      unfold zz44 zz44_s appI
      rw [if_pos (by rw [ptL_len]; simp; omega)]; rfl
    rw [tv_t ⟨P, hP, rfl⟩, cond_true, hcl, Option.bind_some, e, Option.bind_some]
    have : (!was) = tv (CongL n fs (ptL n P)) := by
      cases was with
      | false =>
        refine (tv_t ?_).symm
        have heq := hq.st.eq rfl
        exact ⟨q, hq.pt, ptL_congr fun x hx => (heq x hx).symm, hq.cg⟩
      | true =>
        refine (tv_f ?_).symm
        rintro ⟨C, hC, e1, hc⟩
        have e2 : ∀ x, x < n → P x = C x := fun x hx => ptL_inj e1 hx
        have hl1 : Lep n P C := fun x hx => by rw [e2 x hx]; exact hC.id x hx
        have hl2 := hq.lst C hC hl1 hc
        have e3 : ∀ x, x < n → q x = P x := fun x hx => by
          rw [e2 x hx]
          refine Lep.eq hq.pt hC hl2 (fun y hy => ?_) hx
          rw [← e2 y hy]; exact hq.le y hy
        have := cls_congr e3
        have := hq.st.lt rfl
        omega
    rw [this]
  · rw [tv_f h, cond_false, tv_f]
    rintro ⟨P, hP, e, _⟩
    exact h ⟨P, hP, e⟩

theorem specIs_cong {n : Nat} {fs : List (Nat → Nat → Nat)} (h10 : n ≤ 10) (hfl : fs.length ≤ 10) (ho : Opn n fs) {l : List Int} (hl : l.length ≤ 1048576) : zz26 (algL n fs) l = some (tv (CongL n fs l), ()) := by
  unfold zz26 zz26_s
  rw [show (algL n fs).1 = (n : Int) from rfl, specPartition_eq (by omega) hl, Option.bind_some]
  by_cases h : PartL n l
  · obtain ⟨P, hP, rfl⟩ := h
    obtain ⟨O, e, hO⟩ := push_eq h10 hfl ho hP
    rw [tv_t ⟨P, hP, rfl⟩, cond_true, e, Option.bind_some, l1Same_eq _ _ (by rw [ptL_len]; omega), Option.bind_some]
    have : decide (ptL n O = ptL n P) = tv (CongL n fs (ptL n P)) := by
      by_cases hc : Cg n fs P
      · rw [tv_t ⟨P, hP, rfl, hc⟩, decide_eq_true (ptL_congr ((push_cg ho hP hO).2 hc))]
      · rw [tv_f, decide_eq_false]
        · intro e; exact hc ((push_cg ho hP hO).1 fun x hx => ptL_inj e hx)
        · rintro ⟨C, hC, e1, hc2⟩
          refine hc ((push_cg ho hP hO).1 fun x hx => ?_)
          have e2 : ∀ x, x < n → P x = C x := fun x hx => ptL_inj e1 hx
          have hl1 : Lep n P C := fun x hx => by rw [e2 x hx]; exact hC.id x hx
          rw [e2 x hx]
          refine Lep.eq hO.pt hC (hO.lst C hC hl1 hc2) (fun y hy => ?_) hx
          rw [← e2 y hy]; exact hO.le y hy
    rw [this]
  · rw [tv_f h, cond_false, tv_f]
    rintro ⟨P, hP, e, _⟩
    exact h ⟨P, hP, e⟩

abbrev latF (n : Nat) (le : Nat → Nat → Bool) : List (Nat → Nat → Nat) := [mt n le, mt n (du le)]

theorem latF_op {n : Nat} {le : Nat → Nat → Bool} (h : LatP n le) : Opn n (latF n le) := by
  intro f hf x y hx hy
  simp only [List.mem_cons, List.not_mem_nil, or_false] at hf
  rcases hf with rfl | rfl
  · exact h.mlt hx hy
  · exact jlt h hx hy

theorem lat_pos {n : Nat} {le : Nat → Nat → Bool} (h : LatP n le) : 0 < n := Nat.lt_of_le_of_lt (Nat.zero_le _) (bt_lt h)

theorem latCong_eq {n : Nat} {le : Nat → Nat → Bool} (h : LatP n le) {l : List Int} (hl : l.length ≤ 1048576) : zz47 (latAlg n le) l = some (tv (CongL n (latF n le) l), ()) :=
  isCong_eq (fs := latF n le) h.le10 (lat_pos h) (by simp) (latF_op h) hl

theorem latIs_eq {n : Nat} {le : Nat → Nat → Bool} (h : LatP n le) {l : List Int} (hl : l.length ≤ 1048576) : zz26 (latAlg n le) l = some (tv (CongL n (latF n le) l), ()) :=
  specIs_cong (fs := latF n le) h.le10 (by simp) (latF_op h) hl

def rk (R : Nat → Bool) (x : Nat) : Nat := (fl x R).length

def rt (n : Nat) (R : Nat → Bool) (i : Nat) : Nat := (fl n R).getD i 0

theorem rt_rk {R : Nat → Bool} : ∀ {n x : Nat}, x < n → R x = true → rk R x < (fl n R).length ∧ rt n R (rk R x) = x
  | 0, x, h, _ => by omega
  | n + 1, x, h, hr => by
    unfold rk rt
    by_cases c : x = n
    · subst c
      rw [fl_succ, if_pos hr]
      refine ⟨by simp, ?_⟩
      rw [List.getD_eq_getElem?_getD, List.getElem?_append_right (Nat.le_refl _), Nat.sub_self]; rfl
    · obtain ⟨h1, h2⟩ := rt_rk (n := n) (by omega) hr
      unfold rk at h1 h2
      unfold rt at h2
      rw [fl_succ]
      split
      · refine ⟨by rw [List.length_append]; omega, ?_⟩
        rw [List.getD_eq_getElem?_getD, List.getElem?_append_left h1, ← List.getD_eq_getElem?_getD]; exact h2
      · exact ⟨h1, h2⟩

abbrev rootB (P : Nat → Nat) : Nat → Bool := fun x => decide (P x = x)

inductive Wd where
  | v (n : Int)
  | op (g : Int) (a b : Wd)

def Wd.fl : Wd → List Int
  | .v n => [n]
  | .op g a b => g :: (a.fl ++ b.fl)

def Wd.ok : Wd → Prop
  | .v n => 0 ≤ n ∧ n < 5
  | .op g a b => (g = -1 ∨ g = -2) ∧ a.ok ∧ b.ok

theorem Wd.pos : ∀ A : Wd, 0 < A.fl.length
  | .v n => by simp [Wd.fl]
  | .op g a b => by simp [Wd.fl]

theorem fl_inj : ∀ (A B : Wd), A.ok → B.ok → ∀ (r r' : List Int), A.fl ++ r = B.fl ++ r' → A = B ∧ r = r'
  | .v x, .v y, _, _, r, r', h => by
    simp only [Wd.fl, List.cons_append, List.nil_append, List.cons.injEq] at h
    exact ⟨by rw [h.1], h.2⟩
  | .v x, .op g a b, ha, hb, r, r', h => by
    simp only [Wd.fl, List.cons_append, List.nil_append, List.cons.injEq] at h
    have h1 := ha.1
    have h2 := hb.1
    omega
  | .op g a b, .v x, ha, hb, r, r', h => by
    simp only [Wd.fl, List.cons_append, List.nil_append, List.cons.injEq] at h
    have h1 := ha.1
    have h2 := hb.1
    omega
  | .op g a b, .op g' a' b', ha, hb, r, r', h => by
    simp only [Wd.fl, List.cons_append, List.append_assoc, List.cons.injEq] at h
    obtain ⟨e0, h⟩ := h
    obtain ⟨e1, h⟩ := fl_inj a a' ha.2.1 hb.2.1 _ _ h
    obtain ⟨e2, h⟩ := fl_inj b b' ha.2.2 hb.2.2 _ _ h
    exact ⟨by rw [e0, e1, e2], h⟩

def At (s : List Int) (i : Nat) (A : Wd) : Prop := A.ok ∧ ∃ r, s.drop i = A.fl ++ r

theorem At.lt {s : List Int} {i : Nat} {A : Wd} (h : At s i A) : i + A.fl.length ≤ s.length := by
  obtain ⟨_, r, e⟩ := h
  have := congrArg List.length e
  have := A.pos
  simp only [List.length_drop, List.length_append] at *
  omega

theorem fl_nodup (n : Nat) (P : Nat → Bool) : (fl n P).Nodup := List.nodup_range.filter _

noncomputable def hv (n : Nat) (H : Nat → Bool) (E : Nat → Prop) : List Bool := mkR n fun z => H z || tv (E z)

def blkF (P : Nat → Nat) (i r : Nat) : List Nat := fl i fun y => decide (P y = r)

def plcF (P : Nat → Nat) (i x : Nat) : Int := if x < i ∧ P x = x then (rk (rootB P) x : Int) else 0

theorem blkF_succ (P : Nat → Nat) (i r : Nat) : blkF P (i + 1) r = if P i = r then blkF P i r ++ [i] else blkF P i r := by
  unfold blkF
  rw [fl_succ]
  by_cases e : P i = r <;> simp [e]

theorem blkF_none {P : Nat → Nat} {n i : Nat} (h : Pt n P) (hi : i < n) (e : P i = i) : blkF P i i = [] := by
  unfold blkF
  rw [List.eq_nil_iff_forall_not_mem]
  intro y hy
  obtain ⟨h1, h2⟩ := fl_mem.1 hy
  have := h.lo y (by omega)
  rw [decide_eq_true_eq] at h2
  omega

theorem map_set_at {α β : Type} {f g : α → β} {a : α} : ∀ {l : List α} {k : Nat}, l.Nodup → l[k]? = some a → (∀ b, b ≠ a → f b = g b) → (l.map f).set k (g a) = l.map g
  | [], k, _, h, _ => by simp at h
  | b :: l, 0, hn, h, hg => by
    simp only [List.getElem?_cons_zero, Option.some.injEq] at h
    subst h
    rw [List.map_cons, List.set_cons_zero, List.map_cons]
    congr 1
    refine List.map_congr_left fun c hc => hg c fun e => ?_
    subst e
    exact (List.nodup_cons.1 hn).1 hc
  | b :: l, k + 1, hn, h, hg => by
    simp only [List.getElem?_cons_succ] at h
    have hb : b ≠ a := fun e => (List.nodup_cons.1 hn).1 (e ▸ List.mem_of_getElem? h)
    rw [List.map_cons, List.set_cons_succ, map_set_at (List.nodup_cons.1 hn).2 h hg, List.map_cons, hg b hb]

theorem blkL_eq {n : Nat} {P : Nat → Nat} (h : Pt n P) : ∀ i, i ≤ n → blkL (ptL n P) i = some (mkR n (plcF P i), (fl i (rootB P)).map fun r => cs (blkF P i r))
  | 0, _ => by
    unfold blkL
    rw [ptL_len, rep_mkR]
    refine congrArg some (Prod.ext (mkR_congr fun x _ => ?_) rfl)
    unfold plcF
    rw [if_neg (by omega)]
  | i + 1, hi => by
    have hin : i < n := by omega
    rw [blkL, blkL_eq h i (by omega), Option.bind_some]
    unfold ptL
    rw [get_mkR hin, Option.bind_some]
    have hnd := fl_nodup i (rootB P)
    unfold blkStep
    by_cases e : P i = i
    · rw [if_pos (by omega)]
      have hp : (mkR n (plcF P i)).set i (((fl i (rootB P)).map fun r => cs (blkF P i r)).length : Int) = mkR n (plcF P (i + 1)) := by
        rw [mkR_set]
        refine mkR_congr fun x hx => ?_
        unfold plcF
        by_cases c : x = i
        · subst c
          rw [if_pos rfl, if_pos ⟨by omega, e⟩, List.length_map]; rfl
        · rw [if_neg c]
          by_cases c2 : x < i ∧ P x = x
          · rw [if_pos c2, if_pos ⟨by omega, c2.2⟩]
          · rw [if_neg c2, if_neg fun q => c2 ⟨by omega, q.2⟩]
      simp only [hp, e, atI_mkR hin, Option.bind_some]
      have hv : plcF P (i + 1) i = ((fl i (rootB P)).length : Int) := by
        unfold plcF; rw [if_pos ⟨by omega, e⟩]; rfl
      have hg : ((fl i (rootB P)).map (fun r => cs (blkF P i r)) ++ [[]])[(fl i (rootB P)).length]? = some ([] : List Int) := by
        rw [List.getElem?_append_right (by rw [List.length_map]; exact Nat.le_refl _), List.length_map, Nat.sub_self]; rfl
      rw [hv, atI_nat, hg, Option.bind_some, Int.toNat_natCast]
      refine congrArg some (Prod.ext rfl ?_)
      show ((fl i (rootB P)).map (fun r => cs (blkF P i r)) ++ [[]]).set (fl i (rootB P)).length ([] ++ [(i : Int)]) = _
      rw [List.set_append_right _ _ (by rw [List.length_map]; exact Nat.le_refl _), List.length_map, Nat.sub_self, fl_succ, if_pos (decide_eq_true e), List.map_append]
      congr 1
      · refine List.map_congr_left fun r hr => ?_
        have hr' := (fl_mem.1 hr).1
        rw [blkF_succ, if_neg (by omega)]
      · show [[(i : Int)]] = [cs (blkF P (i + 1) i)]
        rw [blkF_succ, if_pos e, blkF_none h hin e]; rfl
    · have hlo := h.lo i hin
      have hr0 : P i < i := by omega
      have hid := h.id i hin
      rw [if_neg (by omega)]
      simp only [atI_mkR (h.lt hin), Option.bind_some]
      have hv : plcF P i (P i) = (rk (rootB P) (P i) : Int) := by unfold plcF; rw [if_pos ⟨hr0, hid⟩]
      obtain ⟨k1, k2⟩ := rt_rk (R := rootB P) hr0 (decide_eq_true hid)
      have hk : (fl i (rootB P))[rk (rootB P) (P i)]? = some (P i) := by
        rw [List.getElem?_eq_getElem k1]
        unfold rt at k2
        rw [List.getD_eq_getElem?_getD, List.getElem?_eq_getElem k1] at k2
        exact congrArg some k2
      have hg : ((fl i (rootB P)).map fun r => cs (blkF P i r))[rk (rootB P) (P i)]? = some (cs (blkF P i (P i))) := by rw [List.getElem?_map, hk]; rfl
      rw [hv, atI_nat, hg, Option.bind_some, Int.toNat_natCast]
      refine congrArg some (Prod.ext (mkR_congr fun x hx => ?_) ?_)
      · unfold plcF
        by_cases c2 : x < i ∧ P x = x
        · rw [if_pos c2, if_pos ⟨by omega, c2.2⟩]
        · rw [if_neg c2, if_neg fun q => c2 ⟨by
            have : x ≠ i := fun w => e (w ▸ q.2)
            omega, q.2⟩]
      · show ((fl i (rootB P)).map fun r => cs (blkF P i r)).set (rk (rootB P) (P i)) (cs (blkF P i (P i)) ++ [(i : Int)]) = _
        rw [fl_succ, if_neg (by rw [decide_eq_true_eq]; exact e)]
        have := map_set_at (f := fun r => cs (blkF P i r)) (g := fun r => cs (blkF P (i + 1) r)) hnd hk (fun b hb => by
          show cs (blkF P i b) = cs (blkF P (i + 1) b)
          rw [blkF_succ, if_neg fun w => hb w.symm])
        rw [← this]
        congr 1
        rw [blkF_succ, if_pos rfl, cs_append]; rfl

def blksL (n : Nat) (P : Nat → Nat) : List (List Int) := (fl n (rootB P)).map fun r => cs (blkF P n r)

theorem blocksOf_eq {n : Nat} {P : Nat → Nat} (h : Pt n P) (hn : n ≤ 1048576) : impl_blocksOf (ptL n P) = some (blksL n P, ()) := by
  unfold impl_blocksOf
  rw [ptL_len, if_pos (by omega), blkL_eq h n (Nat.le_refl n), Option.bind_some]; rfl

theorem specBlocks_eq {n : Nat} {P : Nat → Nat} (h : Pt n P) (hn : n ≤ 1048576) : zz27 big (ptL n P) = some (blksL n P, ()) := by
  unfold zz27 zz27_s
  have g : ∀ z, z < n → atI (ptL n P) (z : Int) = some ((P z : Nat) : Int) := fun z hz => atI_mkR hz
  refine zz27_h3 n (fun i l => l = (fl i (rootB P)).map fun r => cs (blkF P n r)) (by omega) ?_ ?_ 0 (by omega) _ rfl
  · rintro rc i l hi rfl ih
    have hfl := fl_len i (rootB P)
    unfold zz27_b3
    rw [ptL_len, cdt (by omega), g i hi, Option.bind_some]
    by_cases e : P i = i
    · rw [cdf (by omega)]
      refine zz27_h8 n (fun j b => i ≤ j ∧ b = cs (blkF P j i)) (by omega) ?_ ?_ i (by omega) _ ⟨Nat.le_refl _, by rw [blkF_none h hi e]; rfl⟩
      · rintro rc2 j b hj ⟨hij, rfl⟩ ih2
        have hbl := fl_len j fun y => decide (P y = i)
        unfold zz27_b8
        rw [ptL_len, cdt (by omega), g j hj, Option.bind_some, wr1 (by omega)]
        by_cases c : P j = i
        · rw [cdt (by omega), app1 (by rw [cs_len]; unfold blkF; omega), Option.bind_some]
          exact ih2 _ ⟨by omega, by rw [blkF_succ, if_pos c, cs_append]; rfl⟩
        · rw [cdf (by omega)]
          exact ih2 _ ⟨by omega, by rw [blkF_succ, if_neg c]⟩
      · rintro rc2 b ⟨_, rfl⟩
        unfold zz27_b8
        rw [ptL_len, cdf (by omega), zz27_a8, app1 (by rw [List.length_map]; omega), Option.bind_some, wr1 (by omega)]
        exact ih _ (by rw [fl_succ, if_pos (decide_eq_true e), List.map_append]; rfl)
    · rw [cdt (by omega), wr1 (by omega)]
      exact ih _ (by rw [fl_succ, if_neg (by rw [decide_eq_true_eq]; exact e)])
  · rintro rc l rfl
    unfold zz27_b3
    rw [ptL_len, cdf (by omega), zz27_a3]; rfl

theorem jnf_glb {n : Nat} {le : Nat → Nat → Bool} (h : LatP n le) {S : List Nat} (hS : ∀ s ∈ S, s < n) : ∀ k, k ≤ S.length → IsGlb n (du le) (S.take k) (jnf n le (S.take k))
  | 0, _ => ⟨bt_lt h, by simp, fun z hz _ => bt_le h hz⟩
  | k + 1, hk => by
    have ih := jnf_glb h hS k (by omega)
    have hkl : k < S.length := by omega
    have hx := hS _ (List.getElem_mem hkl)
    rw [List.take_succ_eq_append_getElem hkl, jnf_snoc]
    refine ⟨h.du.mlt ih.lt hx, fun s hs => ?_, fun z hz hs => h.du.mg ih.lt hx hz (ih.gr z hz fun s q => hs s (List.mem_append_left _ q)) (hs S[k] (List.mem_append_right _ (List.mem_singleton.2 rfl)))⟩
    rcases List.mem_append.1 hs with q | q
    · exact h.du.tr (h.du.mlt ih.lt hx) ih.lt (hS s (List.mem_of_mem_take q)) (h.du.m1 ih.lt hx) (ih.lo s q)
    · rw [List.mem_singleton] at q; rw [q]; exact h.du.m2 ih.lt hx

theorem jnf_gb {n : Nat} {le : Nat → Nat → Bool} (h : LatP n le) {S : List Nat} (hS : ∀ s ∈ S, s < n) : gb n (du le) S = jnf n le S := by
  have := jnf_glb h hS S.length (Nat.le_refl _)
  rw [List.take_length] at this
  exact gb_eq h.du this

def bintL (n : Nat) (le : Nat → Nat → Bool) (P : Nat → Nat) (R : List Nat) : List P2 := R.map fun r => ((gb n le (blkF P n r) : Int), (gb n (du le) (blkF P n r) : Int), ())

theorem blk_lt {n : Nat} {P : Nat → Nat} {r : Nat} : ∀ s ∈ blkF P n r, s < n := fun s hs => (fl_mem.1 hs).1

theorem bint_impl {n : Nat} {le : Nat → Nat → Bool} {P : Nat → Nat} (h : LatP n le) {R : List Nat} (hR : R.length ≤ 1048576) :
    zz52_F6 big (some (lat n le)) [] (R.map fun r => cs (blkF P n r)) ((R.map fun r => cs (blkF P n r)).length : Int) 0 = some ((bintL n le P R, true, ()), ()) := by
  have hlen : (R.map fun r => cs (blkF P n r)).length = R.length := List.length_map _
  have h10 := h.le10
  refine zz52_h6 R.length (fun i l => l = bintL n le P (R.take i)) (by omega) ?_ ?_ 0 (by omega) _ rfl
  · rintro rc i l hi rfl ih
    have hg : (R.map fun r => cs (blkF P n r))[i]? = some (cs (blkF P n R[i])) := by rw [List.getElem?_map, List.getElem?_eq_getElem hi]; rfl
    have hbl := fl_len n fun y => decide (P y = R[i])
    have hl : (blkF P n R[i]).length ≤ 4294967296 := by unfold blkF; omega
    unfold zz52_b6
    rw [cdt (by omega)]
    simp only [atI_nat, Int.toNat_natCast, hg, Option.bind_some, meetAll_eq h (S := blkF P n R[i]) blk_lt hl, joinAll_eq h (S := blkF P n R[i]) blk_lt hl]
    rw [app1 (by unfold bintL; rw [List.length_map, List.length_take]; omega), Option.bind_some, wr1 (by omega)]
    refine ih _ ?_
    unfold bintL
    rw [List.take_succ_eq_append_getElem hi, List.map_append, ← jnf_gb h (S := blkF P n R[i]) blk_lt]; rfl
  · rintro rc l rfl
    unfold zz52_b6
    rw [cdf (by omega), zz52_a6, List.take_length]

theorem bint_spec {n : Nat} {le : Nat → Nat → Bool} {P : Nat → Nat} (h : LatP n le) {R : List Nat} (hR : R.length ≤ 1048576) :
    zz28_F6 big (pos n le) [] (R.map fun r => cs (blkF P n r)) 0 = some ((bintL n le P R, true, ()), ()) := by
  have hlen : (R.map fun r => cs (blkF P n r)).length = R.length := List.length_map _
  have h10 := h.le10
  refine zz28_h6 R.length (fun i l => l = bintL n le P (R.take i)) (by omega) ?_ ?_ 0 (by omega) _ rfl
  · rintro rc i l hi rfl ih
    have hg : (R.map fun r => cs (blkF P n r))[i]? = some (cs (blkF P n R[i])) := by rw [List.getElem?_map, List.getElem?_eq_getElem hi]; rfl
    have hbl := fl_len n fun y => decide (P y = R[i])
    have hl : (blkF P n R[i]).length ≤ 4294967296 := by unfold blkF; omega
    unfold zz28_b6
    rw [cdt (by omega)]
    simp only [atI_nat, Int.toNat_natCast, hg, Option.bind_some, specBoundL h (S := blkF P n R[i]) blk_lt hl, specDual_pos (le := le) (show n ≤ 1048576 by omega), specBoundL h.du (S := blkF P n R[i]) blk_lt hl]
    rw [app1 (by unfold bintL; rw [List.length_map, List.length_take]; omega), Option.bind_some, wr1 (by omega)]
    refine ih _ ?_
    unfold bintL
    rw [List.take_succ_eq_append_getElem hi, List.map_append]; rfl
  · rintro rc l rfl
    unfold zz28_b6
    rw [cdf (by omega), zz28_a6, List.take_length]

theorem blockInts_eq (p : PT) (c : List Int) (hx : ∀ r ∈ p.1, r.length ≤ 4294967296) (hc : c.length ≤ 1048576) : ∃ r : List P2 × Bool × Unit, zz28 big p c = some (r, ()) ∧ zz52 big p c = some (r, ()) ∧ r.1.length ≤ 1000 := by
  unfold zz28 zz28_s zz52 zz52_s
  rcases takes_cases hx with ⟨n, le, e, h, h8, h1, h2⟩ | ⟨h1, l, h2⟩
  · subst e
    rw [h1, h2]
    simp only [Option.bind_some, Bool.not_true, cond_false, specAlgebra_eq h, algebra_eq h, latCong_eq h hc, latIs_eq h hc]
    by_cases hC : CongL n (latF n le) c
    · obtain ⟨P, hP, rfl, hg⟩ := hC
      have hR := fl_len n (rootB P)
      simp only [tv_t (show CongL n (latF n le) (ptL n P) from ⟨P, hP, rfl, hg⟩), Bool.not_true, cond_false, blocksOf_eq hP (show n ≤ 1048576 by omega), specBlocks_eq hP (show n ≤ 1048576 by omega), Option.bind_some]
      refine ⟨_, bint_spec h (by omega), bint_impl h (by omega), ?_⟩
      unfold bintL
      rw [List.length_map]; omega
    · rw [tv_f hC]
      exact ⟨_, rfl, rfl, by simp⟩
  · rw [h1, h2]
    exact ⟨_, rfl, rfl, by simp⟩

theorem true_BlockIntervals (p : PT) (c : List Int) (hw : Wf (.pair (.pair (.sl (.sl I)) .unit) (.pair (.sl I) .unit)) (p, c, ())) : laws_FnExactBlockIntervals p c = some (true, ()) := by
  unfold laws_FnExactBlockIntervals laws_FnExactBlockIntervals_s
  by_cases hl : c.length ≤ 1048576
  · obtain ⟨v, hv, hv1, hv2⟩ := szPoset_eq p 1048576 hw.1 (by omega) (by omega)
    rw [cdf (by omega), hv, Option.bind_some]
    by_cases h : v < 0
    · rw [cdt h]
    · have hs := hv2 (by omega)
      obtain ⟨r, h1, h2, h3⟩ := blockInts_eq p c hs.rows hl
      obtain ⟨m, j, hm, hj, hj2⟩ := markPoset_ok hs 1 (by omega) (by omega)
      simp only [cdf h, toPoset_eq hs, toIntS_eq c (show c.length ≤ 4294967296 by omega), Option.bind_some, h1, h2, eqPoset_eq hs, eqIntS_eq c c (show c.length ≤ 1099511627775 by omega), eqA2S_self r.1 (show r.1.length ≤ 4294967296 by omega),
        hm, markIntS_eq2 c j (show c.length ≤ 1099511627775 by omega) hj hj2, markA2S_eq r.1 1 (show r.1.length ≤ 4294967296 by omega) (show (0 : Int) ≤ 1 by omega) (show (1 : Int) ≤ 1099511627776 by omega), heldA2S_eq 1 r.1.length (show r.1.length ≤ 4294967296 by omega) (show (0 : Int) ≤ 1 by omega) (show (1 : Int) ≤ 1099511627776 by omega)]
      simp
      repeat rw [cdf (by omega)]
  · rw [cdt (by omega)]


end Go.Proofs.Yteamfbmkphjcjaa
