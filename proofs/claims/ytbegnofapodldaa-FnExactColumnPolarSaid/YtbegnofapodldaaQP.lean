import Derived.Test.YtbegnofapodldaaPLib
import Derived.Test.YtbegnofapodldaaGP
import Derived.KernelRfl
set_option linter.unusedVariables false
set_option linter.unusedSimpArgs false
namespace Go.Proofs.Ytbegnofapodldaa
open Go Go.Gx Go.Proofs

theorem toIntS_l (N : Nat) (k : List Int → Option (List Int × Unit)) : ∀ (n : Nat) (a out : List Int) (i : Nat), a.length - i < n → i ≤ a.length → out.length = a.length → a.length ≤ 1099511627776 →
    laws_toIntS_l3 N k n a out i = k (out.take i ++ a.drop i)
  | 0, _, _, _, h, _, _, _ => by omega
  | n + 1, a, out, i, h, hi, ho, hb => by
    simp only [laws_toIntS_l3, laws_toIntS_b3]
    by_cases hlt : i < a.length
    · rw [cdt (by omega), atI_lt a i hlt, Option.bind_some, atI_lt out i (by omega), Option.bind_some, Int.toNat_natCast, List.getElem?_eq_getElem (by omega), Option.bind_some, wr (by omega) (by omega)]
      have := toIntS_l N k n a (out.set i a[i]) (i + 1) (by omega) (by omega) (by simpa using ho) hb
      rw [show ((i : Int) + 1) = ((i + 1 : Nat) : Int) by omega, this]
      congr 1
      rw [List.take_succ_eq_append_getElem (by simp; omega), List.take_set, List.set_eq_of_length_le (by simp [Nat.min_le_left]), List.append_assoc]
      congr 1
      rw [List.getElem_set_self, List.singleton_append, ← List.drop_eq_getElem_cons hlt]
    · rw [cdf (by omega)]
      have : i = a.length := by omega
      subst this
      rw [List.drop_length, List.append_nil, List.take_of_length_le (by omega)]

theorem toIntS_eq (a : List Int) (h : a.length ≤ 4294967296) : laws_toIntS big a = some (a, ()) := by
  have hb := big_ge
  unfold laws_toIntS laws_toIntS_s
  rw [mkI_nat _ _ h, Option.bind_some, Option.bind_some, cdt (by omega)]
  unfold laws_toIntS_F3
  have := toIntS_l big laws_toIntS_a3 big a (List.replicate a.length 0) 0 (by omega) (by omega) (by simp) (by omega)
  refine Eq.trans this ?_
  simp [laws_toIntS_a3]

theorem eqIntS_l (N : Nat) (k : Option (Bool × Unit)) : ∀ (n : Nat) (a b : List Int) (i : Nat), a.length - i < n → i ≤ a.length → b.length = a.length → a.length ≤ 1099511627776 →
    laws_eqIntS_l4 N k n a b i = if a.drop i = b.drop i then k else some (false, ())
  | 0, _, _, _, h, _, _, _ => by omega
  | n + 1, a, b, i, h, hi, hl, hb => by
    simp only [laws_eqIntS_l4, laws_eqIntS_b4]
    by_cases hlt : i < a.length
    · rw [cdt (by omega), atI_lt a i hlt, Option.bind_some, atI_lt b i (by omega), Option.bind_some, wr (by omega) (by omega)]
      have := eqIntS_l N k n a b (i + 1) (by omega) (by omega) hl hb
      rw [show ((i : Int) + 1) = ((i + 1 : Nat) : Int) by omega, this]
      rw [List.drop_eq_getElem_cons hlt, List.drop_eq_getElem_cons (show i < b.length by omega)]
      by_cases hx : a[i] = b[i]
      · rw [cdf (by simpa using hx), hx]; simp only [List.cons.injEq, true_and]
      · rw [cdt hx, if_neg (fun e => hx (by simp only [List.cons.injEq] at e; exact e.1))]
    · rw [cdf (by omega), List.drop_eq_nil_of_le (by omega), List.drop_eq_nil_of_le (by omega)]
      simp

theorem eqIntS_eq (a b : List Int) (h : a.length ≤ 1099511627775) : laws_eqIntS big a b = some (decide (a = b), ()) := by
  have hb := big_ge
  unfold laws_eqIntS laws_eqIntS_s
  by_cases hl : a.length = b.length
  · rw [cdf (by simp [hl])]
    unfold laws_eqIntS_F4
    have := eqIntS_l big laws_eqIntS_a4 big a b 0 (by omega) (by omega) (by omega) (by omega)
    rw [show (0 : Int) = ((0 : Nat) : Int) from rfl, this]
    simp only [List.drop_zero, laws_eqIntS_a4]
    by_cases he : a = b <;> simp [he]
  · rw [cdt (by omega)]
    have : a ≠ b := by rintro rfl; exact hl rfl
    simp [this]

theorem l1In_eq (x a b : Int) : spec_l1In x a b = some (decide (a ≤ x ∧ x ≤ b), ()) := by
  unfold spec_l1In spec_l1In_s
  by_cases h : a ≤ x <;> simp [h]

def marks : Int → Nat → List Int
  | _, 0 => []
  | k, n + 1 => k :: marks (k + 1) n

theorem marks_len : ∀ (k : Int) (n : Nat), (marks k n).length = n
  | _, 0 => rfl
  | k, n + 1 => by simp [marks, marks_len (k + 1) n]

theorem markIntS_l (N : Nat) (kk : List Int → Int → Option (Int × (List Int × Unit))) : ∀ (n : Nat) (a : List Int) (k : Int) (i : Nat), a.length - i < n → i ≤ a.length → a.length ≤ 1099511627776 → 0 ≤ k → k ≤ 1125899906842624 →
    k + (a.length - i : Nat) ≤ 1125899906842624 → laws_markIntS_l2 N kk n a k i = kk (a.take i ++ marks k (a.length - i)) (k + (a.length - i : Nat))
  | 0, _, _, _, h, _, _, _, _, _ => by omega
  | n + 1, a, k, i, h, hi, hb, hk0, hk, hk2 => by
    simp only [laws_markIntS_l2, laws_markIntS_b2]
    by_cases hlt : i < a.length
    · rw [cdt (by omega), atI_lt a i hlt, Option.bind_some, Int.toNat_natCast, List.getElem?_eq_getElem hlt, Option.bind_some, wr (by omega) (by omega), wr (by omega) (by omega)]
      have := markIntS_l N kk n (a.set i k) (k + 1) (i + 1) (by simp; omega) (by simp; omega) (by simpa using hb) (by omega) (by omega) (by simp; omega)
      rw [show ((i : Int) + 1) = ((i + 1 : Nat) : Int) by omega, this]
      rw [List.length_set, List.take_succ_eq_append_getElem (by simp; omega), List.take_set, List.set_eq_of_length_le (by simp [Nat.min_le_left]), List.append_assoc, List.getElem_set_self]
      have e : a.length - i = (a.length - (i + 1)) + 1 := by omega
      rw [e, marks]
      congr 1
      omega
    · rw [cdf (by omega)]
      have : i = a.length := by omega
      subst this
      simp [marks]

theorem markIntS_eq (a : List Int) (k : Int) (h : a.length ≤ 1099511627775) (hk : 0 ≤ k) (hk2 : k ≤ 1099511627776) : laws_markIntS big a k = some (k + a.length, (marks k a.length, ())) := by
  have hb := big_ge
  unfold laws_markIntS laws_markIntS_s laws_markIntS_F2
  have := markIntS_l big laws_markIntS_a2 big a k 0 (by omega) (by omega) (by omega) hk (by omega) (by omega)
  refine Eq.trans this ?_
  simp [laws_markIntS_a2]

theorem heldIntS_l (N : Nat) (kk : Int → Option (Int × Unit)) : ∀ (n : Nat) (a b : List Int) (k : Int) (d : Nat), d < n → a = b ++ marks k d → a.length ≤ 1099511627776 → 0 ≤ k → k + d ≤ 1125899906842624 →
    laws_heldIntS_l2 N kk n a k b.length = kk (k + d)
  | 0, _, _, _, _, h, _, _, _, _ => by omega
  | n + 1, a, b, k, d, h, ha, hb, hk0, hk => by
    simp only [laws_heldIntS_l2, laws_heldIntS_b2]
    have hlen : a.length = b.length + d := by rw [ha]; simp [marks_len]
    cases d with
    | zero => rw [cdf (by omega)]; simp
    | succ d =>
      have hlt : b.length < a.length := by omega
      have hx : a[b.length] = k := by
        have : a[b.length]? = some k := by rw [ha]; simp [marks]
        rw [List.getElem?_eq_getElem hlt] at this
        simpa using this
      rw [cdt (by omega), atI_lt a b.length hlt, Option.bind_some, hx, cdf (by simp), wr (by omega) (by omega), wr (by omega) (by omega)]
      have := heldIntS_l N kk n a (b ++ [k]) (k + 1) d (by omega) (by rw [ha, marks, List.append_assoc]; rfl) hb (by omega) (by omega)
      rw [List.length_append, List.length_singleton] at this
      rw [show ((b.length : Int) + 1) = ((b.length + 1 : Nat) : Int) by omega, this]
      congr 1
      omega

theorem heldIntS_eq (k : Int) (d : Nat) (h : d ≤ 1099511627775) (hk : 0 ≤ k) (hk2 : k ≤ 1099511627776) : laws_heldIntS big (marks k d) k = some (k + d, ()) := by
  have hb := big_ge
  unfold laws_heldIntS laws_heldIntS_s laws_heldIntS_F2
  exact heldIntS_l big laws_heldIntS_a2 big (marks k d) [] k d (by omega) rfl (by rw [marks_len]; omega) hk (by omega)

theorem toBoolS_l (N : Nat) (k : List Bool → Option (List Bool × Unit)) : ∀ (n : Nat) (a out : List Bool) (i : Nat), a.length - i < n → i ≤ a.length → out.length = a.length → a.length ≤ 1099511627776 →
    laws_toBoolS_l3 N k n a out i = k (out.take i ++ a.drop i)
  | 0, _, _, _, h, _, _, _ => by omega
  | n + 1, a, out, i, h, hi, ho, hb => by
    simp only [laws_toBoolS_l3, laws_toBoolS_b3]
    by_cases hlt : i < a.length
    · rw [cdt (by omega), atI_lt a i hlt, Option.bind_some, atI_lt out i (by omega), Option.bind_some, Int.toNat_natCast, List.getElem?_eq_getElem (by omega), Option.bind_some, wr (by omega) (by omega)]
      have := toBoolS_l N k n a (out.set i a[i]) (i + 1) (by omega) (by omega) (by simpa using ho) hb
      rw [show ((i : Int) + 1) = ((i + 1 : Nat) : Int) by omega, this]
      congr 1
      rw [List.take_succ_eq_append_getElem (by simp; omega), List.take_set, List.set_eq_of_length_le (by simp [Nat.min_le_left]), List.append_assoc]
      congr 1
      rw [List.getElem_set_self, List.singleton_append, ← List.drop_eq_getElem_cons hlt]
    · rw [cdf (by omega)]
      have : i = a.length := by omega
      subst this
      rw [List.drop_length, List.append_nil, List.take_of_length_le (by omega)]

theorem toBoolS_eq (a : List Bool) (h : a.length ≤ 4294967296) : laws_toBoolS big a = some (a, ()) := by
  have hb := big_ge
  unfold laws_toBoolS laws_toBoolS_s
  rw [mkI_nat _ _ h, Option.bind_some, Option.bind_some, cdt (by omega)]
  unfold laws_toBoolS_F3
  have := toBoolS_l big laws_toBoolS_a3 big a (List.replicate a.length false) 0 (by omega) (by omega) (by simp) (by omega)
  refine Eq.trans this ?_
  simp [laws_toBoolS_a3]

theorem eqBoolS_l (N : Nat) (k : Option (Bool × Unit)) : ∀ (n : Nat) (a b : List Bool) (i : Nat), a.length - i < n → i ≤ a.length → b.length = a.length → a.length ≤ 1099511627776 →
    laws_eqBoolS_l4 N k n a b i = if a.drop i = b.drop i then k else some (false, ())
  | 0, _, _, _, h, _, _, _ => by omega
  | n + 1, a, b, i, h, hi, hl, hb => by
    simp only [laws_eqBoolS_l4, laws_eqBoolS_b4]
    by_cases hlt : i < a.length
    · rw [cdt (by omega), atI_lt a i hlt, Option.bind_some, atI_lt b i (by omega), Option.bind_some, wr (by omega) (by omega)]
      have := eqBoolS_l N k n a b (i + 1) (by omega) (by omega) hl hb
      rw [show ((i : Int) + 1) = ((i + 1 : Nat) : Int) by omega, this]
      rw [List.drop_eq_getElem_cons hlt, List.drop_eq_getElem_cons (show i < b.length by omega)]
      by_cases hx : a[i] = b[i]
      · rw [hx]; simp only [bne_self_eq_false, cond_false, List.cons.injEq, true_and]
      · rw [show (a[i] != b[i]) = true by simpa using hx, cond_true, if_neg (fun e => hx (by simp only [List.cons.injEq] at e; exact e.1))]
    · rw [cdf (by omega), List.drop_eq_nil_of_le (by omega), List.drop_eq_nil_of_le (by omega)]
      simp

theorem eqBoolS_eq (a b : List Bool) (h : a.length ≤ 1099511627775) : laws_eqBoolS big a b = some (decide (a = b), ()) := by
  have hb := big_ge
  unfold laws_eqBoolS laws_eqBoolS_s
  by_cases hl : a.length = b.length
  · rw [cdf (by simp [hl])]
    unfold laws_eqBoolS_F4
    have := eqBoolS_l big laws_eqBoolS_a4 big a b 0 (by omega) (by omega) (by omega) (by omega)
    rw [show (0 : Int) = ((0 : Nat) : Int) from rfl, this]
    simp only [List.drop_zero, laws_eqBoolS_a4]
    by_cases he : a = b <;> simp [he]
  · rw [cdt (by omega)]
    have : a ≠ b := by rintro rfl; exact hl rfl
    simp [this]

theorem toBoolSS_l (N : Nat) (k : List (List Bool) → Option (List (List Bool) × Unit)) : ∀ (n : Nat) (a out : List (List Bool)) (i : Nat), a.length - i < n → i ≤ a.length → out.length = a.length → a.length ≤ 1099511627776 → (∀ x ∈ a, x.length ≤ 4294967296) →
    laws_toBoolSS_l3 N k n a out i = k (out.take i ++ a.drop i)
  | 0, _, _, _, h, _, _, _, _ => by omega
  | n + 1, a, out, i, h, hi, ho, hb, hx => by
    simp only [laws_toBoolSS_l3, laws_toBoolSS_b3]
    by_cases hlt : i < a.length
    · rw [cdt (by omega), atI_lt a i hlt, Option.bind_some, toBoolS_eq _ (hx _ (List.getElem_mem hlt)), Option.bind_some, atI_lt out i (by omega), Option.bind_some, Int.toNat_natCast, List.getElem?_eq_getElem (by omega), Option.bind_some, wr (by omega) (by omega)]
      have := toBoolSS_l N k n a (out.set i a[i]) (i + 1) (by omega) (by omega) (by simpa using ho) hb hx
      rw [show ((i : Int) + 1) = ((i + 1 : Nat) : Int) by omega, this]
      congr 1
      rw [List.take_succ_eq_append_getElem (by simp; omega), List.take_set, List.set_eq_of_length_le (by simp [Nat.min_le_left]), List.append_assoc]
      congr 1
      rw [List.getElem_set_self, List.singleton_append, ← List.drop_eq_getElem_cons hlt]
    · rw [cdf (by omega)]
      have : i = a.length := by omega
      subst this
      rw [List.drop_length, List.append_nil, List.take_of_length_le (by omega)]

theorem toBoolSS_eq (a : List (List Bool)) (h : a.length ≤ 4294967296) (hx : ∀ x ∈ a, x.length ≤ 4294967296) : laws_toBoolSS big a = some (a, ()) := by
  have hb := big_ge
  unfold laws_toBoolSS laws_toBoolSS_s
  rw [mkI_nat _ _ h, Option.bind_some, Option.bind_some, cdt (by omega)]
  unfold laws_toBoolSS_F3
  have := toBoolSS_l big laws_toBoolSS_a3 big a (List.replicate a.length []) 0 (by omega) (by omega) (by simp) (by omega) hx
  refine Eq.trans this ?_
  simp [laws_toBoolSS_a3]

theorem eqBoolSS_l (N : Nat) (k : Option (Bool × Unit)) : ∀ (n : Nat) (a b : List (List Bool)) (i : Nat), a.length - i < n → i ≤ a.length → b.length = a.length → a.length ≤ 1099511627776 → (∀ x ∈ a, x.length ≤ 4294967296) →
    laws_eqBoolSS_l4 N k n a b i = if a.drop i = b.drop i then k else some (false, ())
  | 0, _, _, _, h, _, _, _, _ => by omega
  | n + 1, a, b, i, h, hi, hl, hb, hx => by
    simp only [laws_eqBoolSS_l4, laws_eqBoolSS_b4]
    by_cases hlt : i < a.length
    · have hxx := hx _ (List.getElem_mem hlt)
      rw [cdt (by omega), atI_lt a i hlt, Option.bind_some, atI_lt b i (by omega), Option.bind_some, eqBoolS_eq _ _ (by omega), Option.bind_some, wr (by omega) (by omega)]
      have := eqBoolSS_l N k n a b (i + 1) (by omega) (by omega) hl hb hx
      rw [show ((i : Int) + 1) = ((i + 1 : Nat) : Int) by omega, this]
      rw [List.drop_eq_getElem_cons hlt, List.drop_eq_getElem_cons (show i < b.length by omega)]
      by_cases hx : a[i] = b[i]
      · rw [hx]; simp only [decide_true, Bool.not_true, cond_false, List.cons.injEq, true_and]
      · rw [decide_eq_false hx]; exact (if_neg (fun e => hx (List.cons.inj e).1)).symm
    · rw [cdf (by omega), List.drop_eq_nil_of_le (by omega), List.drop_eq_nil_of_le (by omega)]
      simp

theorem eqBoolSS_eq (a b : List (List Bool)) (h : a.length ≤ 1099511627775) (hx : ∀ x ∈ a, x.length ≤ 4294967296) : laws_eqBoolSS big a b = some (decide (a = b), ()) := by
  have hb := big_ge
  unfold laws_eqBoolSS laws_eqBoolSS_s
  by_cases hl : a.length = b.length
  · rw [cdf (by simp [hl])]
    unfold laws_eqBoolSS_F4
    have := eqBoolSS_l big laws_eqBoolSS_a4 big a b 0 (by omega) (by omega) (by omega) (by omega) hx
    refine Eq.trans this ?_
    simp only [List.drop_zero, laws_eqBoolSS_a4]
    by_cases he : a = b <;> simp [he]
  · rw [cdt (by omega)]
    have : a ≠ b := by rintro rfl; exact hl rfl
    simp [this]

/-- what is left of a size -/

theorem szBoolS_eq (a : List Bool) (l : Int) (h : a.length ≤ 9223372036854775807) (h0 : 0 ≤ l) (h1 : l ≤ 1048576) : laws_szBoolS a l = some ((if (a.length : Int) ≤ l then l - a.length else -1), ()) := by
  unfold laws_szBoolS laws_szBoolS_s
  rw [wr (by omega) (by omega), cd]
  by_cases hl : (a.length : Int) ≤ l
  · rw [if_neg (by omega), if_pos hl]
  · rw [if_pos (by omega), if_neg hl]

theorem szBoolSS_l (N : Nat) : ∀ (n : Nat) (a : List (List Bool)) (l : Int) (i : Nat), a.length - i < n → i ≤ a.length → a.length ≤ 1048576 → 0 ≤ l → l ≤ 1048576 → (∀ x ∈ a, x.length ≤ 9223372036854775807) →
    ∃ v, laws_szBoolSS_l5 N laws_szBoolSS_a5 n a l i = some (v, ()) ∧ (0 ≤ v → ∀ x ∈ a.drop i, x.length ≤ 1048576)
  | 0, _, _, _, h, _, _, _, _, _ => by omega
  | n + 1, a, l, i, h, hi, hb, h0, h1, hx => by
    simp only [laws_szBoolSS_l5, laws_szBoolSS_b5]
    by_cases hlt : i < a.length
    · rw [cdt (by omega), atI_lt a i hlt, Option.bind_some, szBoolS_eq _ _ (hx _ (List.getElem_mem hlt)) h0 h1, Option.bind_some, wr (n := (i : Int) + 1) (by omega) (by omega)]
      by_cases hl : (a[i].length : Int) ≤ l
      · rw [if_pos hl, cdf (by omega)]
        obtain ⟨v, hv, hv2⟩ := szBoolSS_l N n a (l - a[i].length) (i + 1) (by omega) (by omega) hb (by omega) (by omega) hx
        rw [show ((i : Int) + 1) = ((i + 1 : Nat) : Int) by omega]
        refine ⟨v, hv, fun h x hx' => ?_⟩
        rw [List.drop_eq_getElem_cons hlt] at hx'
        rcases List.mem_cons.1 hx' with rfl | hx'
        · omega
        · exact hv2 h x hx'
      · rw [if_neg hl, cdt (by omega)]
        exact ⟨_, rfl, by omega⟩
    · rw [cdf (by omega), List.drop_eq_nil_of_le (by omega)]
      exact ⟨_, rfl, by simp⟩

theorem szBoolSS_eq (a : List (List Bool)) (ha : a.length ≤ 9223372036854775807) (hx : ∀ x ∈ a, x.length ≤ 9223372036854775807) : ∃ v, laws_szBoolSS big a 1048576 = some (v, ()) ∧ (0 ≤ v → a.length ≤ 1048576 ∧ ∀ x ∈ a, x.length ≤ 1048576) := by
  have hb := big_ge
  unfold laws_szBoolSS laws_szBoolSS_s
  rw [wr (by omega) (by omega)]
  by_cases h : a.length ≤ 1048576
  · rw [cdf (by omega)]
    unfold laws_szBoolSS_F5
    obtain ⟨v, hv, hv2⟩ := szBoolSS_l big big a (1048576 - a.length) 0 (by omega) (by omega) h (by omega) (by omega) hx
    exact ⟨v, hv, fun h0 => ⟨h, by simpa using hv2 h0⟩⟩
  · rw [cdt (by omega)]
    exact ⟨_, rfl, by omega⟩

def cw : List (List Bool) → Nat
  | [] => 0
  | r :: _ => r.length

def isCtx (c : List (List Bool)) : Bool := decide (c.length ≤ 6) && c.all fun r => decide (r.length ≤ 6) && decide (r.length = cw c)

theorem specCtx_l (N : Nat) : ∀ (n : Nat) (c : List (List Bool)) (i : Nat), c.length - i < n → i ≤ c.length → c.length ≤ 6 →
    spec_l30Context_l4 N spec_l30Context_a4 n c i = some ((c.drop i).all fun r => decide (r.length ≤ 6) && decide (r.length = cw c), ())
  | 0, _, _, h, _, _ => by omega
  | n + 1, c, i, h, hi, hb => by
    simp only [spec_l30Context_l4, spec_l30Context_b4]
    by_cases hlt : i < c.length
    · obtain ⟨r0, h0, h00⟩ : ∃ r0, atI c (0 : Int) = some r0 ∧ r0.length = cw c := by
        cases c with
        | nil => simp at hlt
        | cons r c => exact ⟨r, atI_lt (r :: c) 0 (by simp), rfl⟩
      rw [cdt (by omega), atI_lt c i hlt, Option.bind_some, Option.bind_some, h0, Option.bind_some, h00, wr (by omega) (by omega)]
      rw [show ((i : Int) + 1) = ((i + 1 : Nat) : Int) by omega, specCtx_l N n c (i + 1) (by omega) (by omega) hb]
      rw [List.drop_eq_getElem_cons hlt, List.all_cons]
      by_cases h6 : c[i].length ≤ 6
      · rw [cdf (by omega)]
        by_cases he : c[i].length = cw c
        · rw [cdf (by omega)]; simp [← he, h6]
        · rw [cdt (by omega)]; rw [decide_eq_false he]; simp
      · rw [cdt (by omega)]; simp [h6]
    · rw [cdf (by omega), List.drop_eq_nil_of_le (by omega)]
      rfl

theorem specCtx_eq (c : List (List Bool)) : spec_l30Context big c = some (isCtx c, ()) := by
  have hb := big_ge
  unfold spec_l30Context spec_l30Context_s isCtx
  by_cases h : c.length ≤ 6
  · rw [cdf (by omega)]
    unfold spec_l30Context_F4
    refine Eq.trans (specCtx_l big big c 0 (by omega) (by omega) h) ?_
    simp [h]
  · rw [cdt (by omega)]; simp [h]

theorem columnsOf_eq (c : List (List Bool)) : impl_columnsOf c = some ((cw c : Int), ()) := by
  unfold impl_columnsOf impl_columnsOf_s
  cases c with
  | nil => rfl
  | cons r c =>
    rw [cdf (by simp; omega)]
    have := atI_lt (r :: c) 0 (by simp)
    rw [show atI (r :: c) (0 : Int) = some r from this]
    rfl

theorem implCtx_l (N : Nat) : ∀ (n : Nat) (c : List (List Bool)) (i : Nat), c.length - i < n → i ≤ c.length → c.length ≤ 6 →
    impl_IsContext_l4 N impl_IsContext_a4 n c c (c.length : Int) i = some ((c.drop i).all fun r => decide (r.length = cw c), ())
  | 0, _, _, h, _, _ => by omega
  | n + 1, c, i, h, hi, hb => by
    simp only [impl_IsContext_l4, impl_IsContext_b4]
    by_cases hlt : i < c.length
    · rw [cdt (by omega), atI_lt c i hlt, Option.bind_some, columnsOf_eq, Option.bind_some, wr (by omega) (by omega)]
      rw [show ((i : Int) + 1) = ((i + 1 : Nat) : Int) by omega, implCtx_l N n c (i + 1) (by omega) (by omega) hb]
      rw [List.drop_eq_getElem_cons hlt, List.all_cons]
      by_cases he : c[i].length = cw c
      · rw [cdf (by omega)]; rw [decide_eq_true he]; simp
      · rw [cdt (by omega)]; rw [decide_eq_false he]; simp
    · rw [cdf (by omega), List.drop_eq_nil_of_le (by omega)]
      rfl

theorem implCtx_eq (c : List (List Bool)) : impl_IsContext big c = some (isCtx c, ()) := by
  have hb := big_ge
  unfold impl_IsContext impl_IsContext_s isCtx
  by_cases h : c.length ≤ 6
  · rw [cdf (by omega), columnsOf_eq, Option.bind_some]
    by_cases h6 : cw c ≤ 6
    · rw [cdf (by omega)]
      unfold impl_IsContext_F4
      refine Eq.trans (implCtx_l big big c 0 (by omega) (by omega) h) ?_
      simp only [List.drop_zero, h, decide_true, Bool.true_and]
      congr 2
      congr 1
      funext r
      by_cases he : r.length = cw c
      · rw [decide_eq_true he, decide_eq_true (show r.length ≤ 6 by omega)]; rfl
      · rw [decide_eq_false he]; simp
    · rw [cdt (by omega)]
      cases c with
      | nil => simp [cw] at h6
      | cons r c =>
        simp only [cw] at h6
        simp [h6]
  · rw [cdt (by omega)]; simp [h]

theorem markIntS_eq2 (a : List Int) (k : Int) (h : a.length ≤ 1099511627775) (hk : 0 ≤ k) (hk2 : k ≤ 10995116277760) : laws_markIntS big a k = some (k + a.length, (marks k a.length, ())) := by
  have hb := big_ge
  unfold laws_markIntS laws_markIntS_s laws_markIntS_F2
  have := markIntS_l big laws_markIntS_a2 big a k 0 (by omega) (by omega) (by omega) hk (by omega) (by omega)
  refine Eq.trans this ?_
  simp [laws_markIntS_a2]

theorem markBoolS_l (N : Nat) : ∀ (n : Nat) (a : List Bool) (k : Int) (i : Nat), a.length - i < n → i ≤ a.length → a.length ≤ 1099511627776 → 0 ≤ k → k + (a.length - i : Nat) ≤ 1125899906842624 →
    ∃ v, laws_markBoolS_l2 N laws_markBoolS_a2 n a k i = some (k + (a.length - i : Nat), (v, ()))
  | 0, _, _, _, h, _, _, _, _ => by omega
  | n + 1, a, k, i, h, hi, hb, hk0, hk => by
    simp only [laws_markBoolS_l2, laws_markBoolS_b2]
    by_cases hlt : i < a.length
    · have hr : remI k 3 = some (k.tmod 3) := by simp [remI]
      rw [cdt (by omega), hr, Option.bind_some, atI_lt a i hlt, Option.bind_some, Int.toNat_natCast, List.getElem?_eq_getElem hlt, Option.bind_some, wr (by omega) (by omega), wr (by omega) (by omega)]
      obtain ⟨v, hv⟩ := markBoolS_l N n (a.set i (decide (k.tmod 3 = 0))) (k + 1) (i + 1) (by simp; omega) (by simp; omega) (by simpa using hb) (by omega) (by simp; omega)
      rw [show ((i : Int) + 1) = ((i + 1 : Nat) : Int) by omega, hv]
      refine ⟨v, ?_⟩
      congr 2
      simp only [List.length_set]
      omega
    · rw [cdf (by omega)]
      have : i = a.length := by omega
      subst this
      exact ⟨a, by simp [laws_markBoolS_a2]⟩

theorem markBoolS_eq (a : List Bool) (k : Int) (h : a.length ≤ 1099511627775) (hk : 0 ≤ k) (hk2 : k + a.length ≤ 1125899906842624) : ∃ v, laws_markBoolS big a k = some (k + a.length, (v, ())) := by
  have hb := big_ge
  unfold laws_markBoolS laws_markBoolS_s laws_markBoolS_F2
  have := markBoolS_l big big a k 0 (by omega) (by omega) (by omega) hk (by omega)
  simpa using this

theorem markBoolSS_l (N : Nat) : ∀ (n : Nat) (a : List (List Bool)) (k : Int) (i : Nat), a.length - i < n → i ≤ a.length → a.length ≤ 1048576 → (∀ x ∈ a.drop i, x.length ≤ 1048576) → 0 ≤ k → k + (a.length - i : Nat) * 1048576 ≤ 10995116277760 →
    ∃ v j, laws_markBoolSS_l2 N laws_markBoolSS_a2 n a k i = some (j, (v, ())) ∧ 0 ≤ j ∧ j ≤ k + (a.length - i : Nat) * 1048576
  | 0, _, _, _, h, _, _, _, _, _ => by omega
  | n + 1, a, k, i, h, hi, hb, hx, hk0, hk => by
    simp only [laws_markBoolSS_l2, laws_markBoolSS_b2]
    by_cases hlt : i < a.length
    · have hai : a[i].length ≤ 1048576 := hx _ (by rw [List.drop_eq_getElem_cons hlt]; exact List.mem_cons_self)
      obtain ⟨v, hv⟩ := markBoolS_eq a[i] k (by omega) hk0 (by omega)
      rw [cdt (by omega), atI_lt a i hlt, Option.bind_some, Int.toNat_natCast, List.getElem?_eq_getElem hlt, Option.bind_some, Option.bind_some, hv, Option.bind_some, Option.bind_some, Option.bind_some, wr (by omega) (by omega)]
      have e1 : (a.set i v).drop (i + 1) = a.drop (i + 1) := by rw [List.drop_set, if_pos (by omega)]
      obtain ⟨v2, j, h1, h2, h3⟩ := markBoolSS_l N n (a.set i v) (k + a[i].length) (i + 1) (by simp; omega) (by simp; omega) (by simpa using hb) (by
        rw [e1]
        intro x hx'
        exact hx x (by rw [List.drop_eq_getElem_cons hlt]; exact List.mem_cons_of_mem _ hx')) (by omega) (by simp only [List.length_set]; omega)
      rw [show ((i : Int) + 1) = ((i + 1 : Nat) : Int) by omega, h1]
      refine ⟨v2, j, rfl, h2, ?_⟩
      simp only [List.length_set] at h3
      omega
    · rw [cdf (by omega)]
      exact ⟨a, k, rfl, hk0, by omega⟩

theorem markBoolSS_eq (a : List (List Bool)) (k : Int) (h : a.length ≤ 1048576) (hx : ∀ x ∈ a, x.length ≤ 1048576) (hk : 0 ≤ k) (hk2 : k ≤ 1) : ∃ v j, laws_markBoolSS big a k = some (j, (v, ())) ∧ 0 ≤ j ∧ j ≤ 10995116277760 := by
  have hb := big_ge
  unfold laws_markBoolSS laws_markBoolSS_s laws_markBoolSS_F2
  obtain ⟨v, j, h1, h2, h3⟩ := markBoolSS_l big big a k 0 (by omega) (by omega) h (by simpa using hx) hk (by omega)
  exact ⟨v, j, h1, h2, by omega⟩

def risingB : List Int → Bool
  | x :: y :: r => decide (x < y) && risingB (y :: r)
  | _ => true

def inB (n : Nat) (x : Int) : Bool := decide (0 ≤ x ∧ x < n)

def isSetB (n : Nat) (s : List Int) : Bool := s.all (inB n) && risingB s

theorem rising_step (l : List Int) (i : Nat) (h : i < l.length) (h1 : 1 ≤ i) : risingB (l.drop (i - 1)) = (decide (l[i - 1] < l[i]) && risingB (l.drop i)) := by
  rw [List.drop_eq_getElem_cons (show i - 1 < l.length by omega), show i - 1 + 1 = i by omega, List.drop_eq_getElem_cons h]
  rfl

theorem rising_end (l : List Int) (i : Nat) (h : l.length ≤ i) (h1 : 1 ≤ i) : risingB (l.drop (i - 1)) = true := by
  by_cases h2 : l.length = i
  · rw [List.drop_eq_getElem_cons (show i - 1 < l.length by omega), List.drop_eq_nil_of_le (by omega)]
    rfl
  · rw [List.drop_eq_nil_of_le (by omega)]
    rfl

theorem specRising_l (N : Nat) {m : Nat} : ∀ (n : Nat) (l : List Int) (i : Nat), l.length - i < n → i ≤ l.length → l.length ≤ 1099511627776 →
    spec_l1Rising_l2 N spec_l1Rising_a2 n l 0 ((m : Int) - 1) i = some ((l.drop i).all (inB m) && risingB (l.drop (i - 1)), ())
  | 0, _, _, h, _, _ => by omega
  | n + 1, l, i, h, hi, hb => by
    simp only [spec_l1Rising_l2, spec_l1Rising_b2]
    by_cases hlt : i < l.length
    · have e : decide (0 ≤ l[i] ∧ l[i] ≤ (m : Int) - 1) = inB m l[i] := by
        unfold inB; congr 1; exact propext ⟨fun h => ⟨h.1, by omega⟩, fun h => ⟨h.1, by omega⟩⟩
      rw [cdt (by omega), atI_lt l i hlt, Option.bind_some, l1In_eq, Option.bind_some, e, wr (n := (i : Int) + 1) (by omega) (by omega), wr (n := (i : Int) - 1) (by omega) (by omega)]
      rw [show ((i : Int) + 1) = ((i + 1 : Nat) : Int) by omega, specRising_l N n l (i + 1) (by omega) (by omega) hb]
      rw [show i + 1 - 1 = i by omega]
      cases hin : inB m l[i] with
      | false =>
        rw [List.drop_eq_getElem_cons hlt, List.all_cons, hin]
        rfl
      | true =>
        simp only [Bool.not_true, cond_false]
        by_cases h0 : 0 < i
        · rw [cdt (by omega), show ((i : Int) - 1) = ((i - 1 : Nat) : Int) by omega, atI_lt l (i - 1) (by omega), Option.bind_some, Option.bind_some, rising_step l i hlt h0]
          by_cases hle : l[i] ≤ l[i - 1]
          · rw [cdt hle, decide_eq_false (by omega)]
            simp
          · rw [cdf hle, decide_eq_true (show l[i - 1] < l[i] by omega), List.drop_eq_getElem_cons hlt, List.all_cons, hin]
            simp
        · rw [cdf (by omega)]
          have : i = 0 := by omega
          subst this
          rw [show (0 : Nat) - 1 = 0 from rfl, List.drop_eq_getElem_cons hlt, List.all_cons, hin]
          simp
    · rw [cdf (by omega), List.drop_eq_nil_of_le (by omega)]
      by_cases h1 : 1 ≤ i
      · rw [rising_end l i (by omega) h1]; rfl
      · have : l = [] := List.eq_nil_of_length_eq_zero (by omega)
        subst this
        simp [risingB, spec_l1Rising_a2]

theorem l30Set_eq (n : Nat) (s : List Int) (hn : n ≤ 1099511627776) (hs : s.length ≤ 1099511627775) : spec_l30Set (n : Int) s = some (isSetB n s, ()) := by
  have hb := big_ge
  unfold spec_l30Set spec_l30Set_s spec_l1Rising spec_l1Rising_s spec_l1Rising_F2
  rw [wr (by omega) (by omega)]
  have := specRising_l big (m := n) big s 0 (by omega) (by omega) (by omega)
  rw [show spec_l1Rising_l2 big spec_l1Rising_a2 big s 0 ((n : Int) - 1) 0 = _ from this]
  rfl

theorem inSize_l (N : Nat) {m : Nat} : ∀ (n : Nat) (l : List Int) (i : Nat), l.length - i < n → i ≤ l.length → l.length ≤ 1099511627776 →
    impl_inSize_l2 N impl_inSize_a2 n (m : Int) l (l.length : Int) i = some ((l.drop i).all (inB m), ())
  | 0, _, _, h, _, _ => by omega
  | n + 1, l, i, h, hi, hb => by
    simp only [impl_inSize_l2, impl_inSize_b2]
    by_cases hlt : i < l.length
    · rw [cdt (by omega), atI_lt l i hlt, Option.bind_some, wr (n := (i : Int) + 1) (by omega) (by omega)]
      rw [show ((i : Int) + 1) = ((i + 1 : Nat) : Int) by omega, inSize_l N n l (i + 1) (by omega) (by omega) hb]
      rw [List.drop_eq_getElem_cons hlt, List.all_cons]
      unfold inB
      by_cases h0 : l[i] < 0
      · rw [cdt h0, decide_eq_false (by omega)]; rfl
      · rw [cdf h0]
        by_cases h1 : (m : Int) ≤ l[i]
        · rw [cdt h1, decide_eq_false (by omega)]; rfl
        · rw [cdf h1, decide_eq_true (by omega)]; rfl
    · rw [cdf (by omega), List.drop_eq_nil_of_le (by omega)]
      rfl

theorem rises_l (N : Nat) : ∀ (n : Nat) (l : List Int) (i : Nat), l.length - i < n → 1 ≤ i → l.length ≤ 1099511627776 → i ≤ 1099511627777 →
    impl_rises_l2 N impl_rises_a2 n l i = some (risingB (l.drop (i - 1)), ())
  | 0, _, _, h, _, _, _ => by omega
  | n + 1, l, i, h, hi, hb, hi2 => by
    simp only [impl_rises_l2, impl_rises_b2]
    by_cases hlt : i < l.length
    · rw [cdt (by omega), wr (n := (i : Int) - 1) (by omega) (by omega), show ((i : Int) - 1) = ((i - 1 : Nat) : Int) by omega, atI_lt l (i - 1) (by omega), Option.bind_some, atI_lt l i hlt, Option.bind_some, wr (n := (i : Int) + 1) (by omega) (by omega)]
      rw [show ((i : Int) + 1) = ((i + 1 : Nat) : Int) by omega, rises_l N n l (i + 1) (by omega) (by omega) hb (by omega), rising_step l i hlt hi, show i + 1 - 1 = i by omega]
      by_cases hle : l[i] ≤ l[i - 1]
      · rw [cdt hle, decide_eq_false (by omega)]; rfl
      · rw [cdf hle, decide_eq_true (by omega)]; rfl
    · rw [cdf (by omega), rising_end l i (by omega) hi]
      rfl

theorem isSetOf_eq (n : Nat) (s : List Int) (hs : s.length ≤ 1099511627775) : impl_isSetOf (n : Int) s = some (isSetB n s, ()) := by
  have hb := big_ge
  unfold impl_isSetOf impl_isSetOf_s impl_inSize impl_inSize_s impl_inSize_F2 impl_rises impl_rises_s impl_rises_F2 isSetB
  have h1 := inSize_l big (m := n) big s 0 (by omega) (by omega) (by omega)
  have h2 := rises_l big big s 1 (by omega) (by omega) (by omega) (by omega)
  rw [show (0 : Int) = ((0 : Nat) : Int) from rfl, show (1 : Int) = ((1 : Nat) : Int) from rfl, h1, h2]
  simp only [Option.bind_some, List.drop_zero, show (1 : Nat) - 1 = 0 from rfl]
  cases s.all (inB n) <;> simp

theorem specColumns_eq (c : List (List Bool)) : spec_l30Columns c = some ((cw c : Int), ()) := by
  unfold spec_l30Columns spec_l30Columns_s
  cases c with
  | nil => rfl
  | cons r c =>
    rw [cdf (by simp; omega)]
    have := atI_lt (r :: c) 0 (by simp)
    rw [show atI (r :: c) (0 : Int) = some r from this]
    rfl

/-- a cell -/

def cellB (c : List (List Bool)) (x y : Int) : Bool := ((atI c x).bind fun r => atI r y).getD false

theorem cell_ok {c : List (List Bool)} (hc : isCtx c = true) {x y : Int} (hx : inB c.length x = true) (hy : inB (cw c) y = true) : ∃ r, atI c x = some r ∧ atI r y = some (cellB c x y) := by
  unfold inB at hx hy
  simp only [decide_eq_true_eq] at hx hy
  unfold isCtx at hc
  simp only [Bool.and_eq_true, List.all_eq_true, decide_eq_true_eq] at hc
  have h1 : x.toNat < c.length := by omega
  have e1 : atI c x = some c[x.toNat] := by
    have := atI_lt c x.toNat h1
    rwa [show ((x.toNat : Nat) : Int) = x by omega] at this
  have hl := (hc.2 c[x.toNat] (List.getElem_mem h1)).2
  have h2 : y.toNat < c[x.toNat].length := by omega
  have e2 : atI c[x.toNat] y = some c[x.toNat][y.toNat] := by
    have := atI_lt c[x.toNat] y.toNat h2
    rwa [show ((y.toNat : Nat) : Int) = y by omega] at this
  refine ⟨c[x.toNat], e1, ?_⟩
  unfold cellB
  rw [e1, Option.bind_some, e2]
  rfl

/-- the numbers from y on, m of them, that p holds of -/

def pol (p : Nat → Bool) : Nat → Nat → List Int
  | 0, _ => []
  | m + 1, y => (if p y then [(y : Int)] else []) ++ pol p m (y + 1)

theorem pol_len (p : Nat → Bool) : ∀ m y, (pol p m y).length ≤ m
  | 0, _ => by simp [pol]
  | m + 1, y => by
    have := pol_len p m (y + 1)
    simp only [pol, List.length_append]
    split <;> simp <;> omega

theorem rowIn_l (N : Nat) {c : List (List Bool)} (hc : isCtx c = true) (k : List (List Bool) → List Int → List Int → Int → Bool → Option (List Int × Unit)) (out : List Int) (y : Int) (hy : inB (cw c) y = true) : ∀ (n : Nat) (rows : List Int) (all : Bool) (i : Nat), rows.length - i < n → i ≤ rows.length → rows.length ≤ 1099511627776 → (∀ x ∈ rows, inB c.length x = true) →
    spec_l30Row_l7 N k n c rows out y all i = k c rows out y (all && (rows.drop i).all fun x => cellB c x y)
  | 0, _, _, _, h, _, _, _ => by omega
  | n + 1, rows, all, i, h, hi, hb, hr => by
    simp only [spec_l30Row_l7, spec_l30Row_b7]
    by_cases hlt : i < rows.length
    · obtain ⟨r, e1, e2⟩ := cell_ok hc (hr _ (List.getElem_mem hlt)) hy
      rw [cdt (by omega), wr (n := (i : Int) + 1) (by omega) (by omega), atI_lt rows i hlt, Option.bind_some, e1, Option.bind_some, e2, Option.bind_some]
      rw [show ((i : Int) + 1) = ((i + 1 : Nat) : Int) by omega, rowIn_l N hc k out y hy n rows _ (i + 1) (by omega) (by omega) hb hr, rowIn_l N hc k out y hy n rows _ (i + 1) (by omega) (by omega) hb hr]
      rw [List.drop_eq_getElem_cons hlt, List.all_cons]
      cases all <;> simp
    · rw [cdf (by omega), List.drop_eq_nil_of_le (by omega)]
      simp

theorem rowOut_l (N : Nat) {c : List (List Bool)} (hc : isCtx c = true) (hN : 1099511627776 ≤ N) (k : List Int → Option (List Int × Unit)) {rows : List Int} (hb : rows.length ≤ 1099511627775) (hr : ∀ x ∈ rows, inB c.length x = true) : ∀ (m n : Nat) (out : List Int) (y : Nat), m < n → y + m = cw c → out.length ≤ y → cw c ≤ 6 →
    spec_l30Row_l3 N k n c rows out y = k (out ++ pol (fun y => rows.all fun x => cellB c x y) m y)
  | m, 0, _, _, h, _, _, _ => by omega
  | m, n + 1, out, y, h, hy, ho, h6 => by
    simp only [spec_l30Row_l3, spec_l30Row_b3]
    rw [specColumns_eq, Option.bind_some]
    cases m with
    | zero => rw [cdf (by omega)]; simp [pol]
    | succ m =>
      rw [cdt (by omega)]
      unfold spec_l30Row_F7
      have := rowIn_l N hc (spec_l30Row_a7 (spec_l30Row_l3 N k n)) out y (by unfold inB; simp; omega) N rows true 0 (by omega) (by omega) (by omega) hr
      rw [show (0 : Int) = ((0 : Nat) : Int) from rfl, this]
      simp only [List.drop_zero, Bool.true_and, spec_l30Row_a7, pol]
      rw [wr (by omega) (by omega), show ((y : Int) + 1) = ((y + 1 : Nat) : Int) by omega, appI_ok (by simp; omega), Option.bind_some]
      rw [rowOut_l N hc hN k hb hr m n (out ++ [(y : Int)]) (y + 1) (by omega) (by omega) (by simp; omega) h6, rowOut_l N hc hN k hb hr m n out (y + 1) (by omega) (by omega) (by omega) h6]
      by_cases hh : (rows.all fun x => cellB c x (y : Int)) = true
      · simp [hh]
      · simp only [Bool.not_eq_true] at hh; simp [hh]

theorem ctx_cw {c : List (List Bool)} (hc : isCtx c = true) : c.length ≤ 6 ∧ cw c ≤ 6 := by
  unfold isCtx at hc
  simp only [Bool.and_eq_true, List.all_eq_true, decide_eq_true_eq] at hc
  refine ⟨hc.1, ?_⟩
  cases c with
  | nil => simp [cw]
  | cons r c => exact (hc.2 r List.mem_cons_self).1

theorem specRow_eq {c : List (List Bool)} (hc : isCtx c = true) {rows : List Int} (hb : rows.length ≤ 1099511627775) (hr : ∀ x ∈ rows, inB c.length x = true) : spec_l30Row big c rows = some (pol (fun y => rows.all fun x => cellB c x y) (cw c) 0, ()) := by
  have hg := big_ge
  unfold spec_l30Row spec_l30Row_s spec_l30Row_F3
  have h6 := (ctx_cw hc).2
  have := rowOut_l big hc hg spec_l30Row_a3 hb hr (cw c) big [] 0 (by omega) (by omega) (by simp) h6
  rw [show (0 : Int) = ((0 : Nat) : Int) from rfl, this]
  rfl

theorem polRow_l (N : Nat) {c : List (List Bool)} (hc : isCtx c = true) (k : Int → List Int → (List (List Bool) × Unit) → List Int → Int → Bool → Option (List Int × Unit)) (n0 : Int) (out : List Int) (y : Int) (hy : inB (cw c) y = true) : ∀ (n : Nat) (rows : List Int) (all : Bool) (i : Nat), rows.length - i < n → i ≤ rows.length → rows.length ≤ 1099511627776 → (∀ x ∈ rows, inB c.length x = true) →
    impl_polar_k_RowPolar_c1_l7 N k n n0 rows (c, ()) out y all rows (rows.length : Int) i = k n0 rows (c, ()) out y (all && (rows.drop i).all fun x => cellB c x y)
  | 0, _, _, _, h, _, _, _ => by omega
  | n + 1, rows, all, i, h, hi, hb, hr => by
    simp only [impl_polar_k_RowPolar_c1_l7, impl_polar_k_RowPolar_c1_b7]
    by_cases hlt : i < rows.length
    · obtain ⟨r, e1, e2⟩ := cell_ok hc (hr _ (List.getElem_mem hlt)) hy
      rw [cdt (by omega), wr (n := (i : Int) + 1) (by omega) (by omega), atI_lt rows i hlt, Option.bind_some]
      unfold impl_RowPolar_c1 impl_RowPolar_c1_s
      rw [e1, Option.bind_some, e2, Option.bind_some, Option.bind_some]
      rw [show ((i : Int) + 1) = ((i + 1 : Nat) : Int) by omega, polRow_l N hc k n0 out y hy n rows _ (i + 1) (by omega) (by omega) hb hr, polRow_l N hc k n0 out y hy n rows _ (i + 1) (by omega) (by omega) hb hr]
      rw [List.drop_eq_getElem_cons hlt, List.all_cons]
      cases all <;> simp
    · rw [cdf (by omega), List.drop_eq_nil_of_le (by omega)]
      simp

theorem polOut_l (N : Nat) {c : List (List Bool)} (hc : isCtx c = true) (hN : 1099511627776 ≤ N) (k : List Int → Option (List Int × Unit)) {rows : List Int} (hb : rows.length ≤ 1099511627775) (hr : ∀ x ∈ rows, inB c.length x = true) : ∀ (m n : Nat) (out : List Int) (y : Nat), m < n → y + m = cw c → out.length ≤ y → cw c ≤ 6 →
    impl_polar_k_RowPolar_c1_l3 N k n (cw c : Int) rows (c, ()) out y = k (out ++ pol (fun y => rows.all fun x => cellB c x y) m y)
  | m, 0, _, _, h, _, _, _ => by omega
  | m, n + 1, out, y, h, hy, ho, h6 => by
    simp only [impl_polar_k_RowPolar_c1_l3, impl_polar_k_RowPolar_c1_b3]
    cases m with
    | zero => rw [cdf (by omega)]; simp [pol]
    | succ m =>
      rw [cdt (by omega)]
      unfold impl_polar_k_RowPolar_c1_F7
      have := polRow_l N hc (impl_polar_k_RowPolar_c1_a7 (impl_polar_k_RowPolar_c1_l3 N k n)) (cw c : Int) out y (by unfold inB; simp; omega) N rows true 0 (by omega) (by omega) (by omega) hr
      rw [show (0 : Int) = ((0 : Nat) : Int) from rfl, this]
      simp only [List.drop_zero, Bool.true_and, impl_polar_k_RowPolar_c1_a7, pol]
      rw [wr (by omega) (by omega), show ((y : Int) + 1) = ((y + 1 : Nat) : Int) by omega, appI_ok (by simp; omega), Option.bind_some]
      rw [polOut_l N hc hN k hb hr m n (out ++ [(y : Int)]) (y + 1) (by omega) (by omega) (by simp; omega) h6, polOut_l N hc hN k hb hr m n out (y + 1) (by omega) (by omega) (by omega) h6]
      by_cases hh : (rows.all fun x => cellB c x (y : Int)) = true
      · simp [hh]
      · simp only [Bool.not_eq_true] at hh; simp [hh]

theorem implRow_eq {c : List (List Bool)} (hc : isCtx c = true) {rows : List Int} (hb : rows.length ≤ 1099511627775) (hr : ∀ x ∈ rows, inB c.length x = true) : impl_polar_k_RowPolar_c1 big (cw c : Int) rows (c, ()) = some (pol (fun y => rows.all fun x => cellB c x y) (cw c) 0, ()) := by
  have hg := big_ge
  unfold impl_polar_k_RowPolar_c1 impl_polar_k_RowPolar_c1_s impl_polar_k_RowPolar_c1_F3
  have h6 := (ctx_cw hc).2
  have := polOut_l big hc hg impl_polar_k_RowPolar_c1_a3 hb hr (cw c) big [] 0 (by omega) (by omega) (by simp) h6
  rw [show (0 : Int) = ((0 : Nat) : Int) from rfl, this]
  rfl

def rowV (c : List (List Bool)) (rows : List Int) : List Int × Bool × Unit := if isCtx c && isSetB c.length rows then (pol (fun y => rows.all fun x => cellB c x y) (cw c) 0, true, ()) else ([], false, ())

theorem setB_mem {n : Nat} {s : List Int} (h : isSetB n s = true) : ∀ x ∈ s, inB n x = true := by
  unfold isSetB at h
  simp only [Bool.and_eq_true, List.all_eq_true] at h
  exact h.1

theorem specRowPolar_eq (c : List (List Bool)) (rows : List Int) (hc : c.length ≤ 1099511627776) (hb : rows.length ≤ 1099511627775) : spec_RowPolar c rows = some (rowV c rows, ()) := by
  unfold spec_RowPolar spec_RowPolar_s rowV
  rw [specCtx_eq, Option.bind_some, l30Set_eq _ _ hc hb, Option.bind_some]
  cases h : isCtx c with
  | false => rfl
  | true =>
    cases h2 : isSetB c.length rows with
    | false => rfl
    | true => simp only [Bool.not_true, cond_false, specRow_eq h hb (setB_mem h2), Option.bind_some]; rfl

theorem implRowPolar_eq (c : List (List Bool)) (rows : List Int) (hb : rows.length ≤ 1099511627775) : impl_RowPolar c rows = some (rowV c rows, ()) := by
  unfold impl_RowPolar impl_RowPolar_s rowV
  rw [implCtx_eq, Option.bind_some, isSetOf_eq _ _ hb, Option.bind_some, columnsOf_eq, Option.bind_some]
  cases h : isCtx c with
  | false => rfl
  | true =>
    cases h2 : isSetB c.length rows with
    | false => rfl
    | true => simp only [Bool.not_true, cond_false, implRow_eq h hb (setB_mem h2), Option.bind_some]; rfl

theorem rowV_len (c : List (List Bool)) (rows : List Int) : (rowV c rows).1.length ≤ 6 := by
  unfold rowV
  split
  · rename_i h
    simp only [Bool.and_eq_true] at h
    have h1 := pol_len (fun y => rows.all fun x => cellB c x y) (cw c) 0
    have h2 := (ctx_cw h.1).2
    simp only; omega
  · simp

theorem true_RowPolar (c : List (List Bool)) (rows : List Int) (hw : Wf (.pair (.sl (.sl .bool)) (.pair (.sl I) .unit)) (c, rows, ())) : laws_FnExactRowPolar c rows = some (true, ()) := by
  simp only [Wf, maxLen] at hw
  unfold laws_FnExactRowPolar laws_FnExactRowPolar_s
  by_cases h : rows.length ≤ 1048576
  · rw [cdf (by omega)]
    obtain ⟨v, hv, hv2⟩ := szBoolSS_eq c hw.1.1 fun x hx => (hw.1.2 x hx).1
    rw [hv, Option.bind_some]
    by_cases h0 : v < 0
    · rw [cdt h0]
    · obtain ⟨h1, h2⟩ := hv2 (by omega)
      have h3 : ∀ x ∈ c, x.length ≤ 4294967296 := fun x hx => by have := h2 x hx; omega
      obtain ⟨m, j, hm, hj, hj2⟩ := markBoolSS_eq c 1 h1 h2 (by omega) (by omega)
      have hl := rowV_len c rows
      rw [cdf h0]
      simp only [toBoolSS_eq c (by omega) h3, toIntS_eq rows (by omega), Option.bind_some, specRowPolar_eq c rows (by omega) (by omega), implRowPolar_eq c rows (by omega), eqIntS_eq (rowV c rows).1 (rowV c rows).1 (by omega), eqBoolSS_eq c c (by omega) h3, eqIntS_eq rows rows (by omega),
        hm, markIntS_eq2 rows j (by omega) hj hj2, markIntS_eq (rowV c rows).1 1 (by omega) (by omega) (by omega), heldIntS_eq 1 (rowV c rows).1.length (by omega) (by omega) (by omega)]
      simp
      repeat rw [cdf (by omega)]
  · rw [cdt (by omega)]


end Go.Proofs.Ytbegnofapodldaa
